/- Parts of the proof of PNumbers, one behind the other. -/
import Derived.Test.YtcklfcagailoiaaDoorM1
import Derived.LoopN
import Derived.ProofKit
import Derived.OpenShut
import Derived.Carry
import Derived.KernelRfl
namespace Ab
set_option linter.unusedVariables false
set_option linter.unusedSimpArgs false
open Go
section
variable {P : Program} {Γ : CallR} {c : Cx} {h : Heap} {w : World} {e : Env} {a : Act} {o : Oper} {k kp : SV → Heap → Prop} {next : Act → World → Prop} {Q : Exit → Act → World → Prop}

theorem Does.wp (hd : Does P c h w a o k) (hk : ∀ v x h' c' w', k v h' → Rep c' h' w' → Ext c h w c' h' w' → VR c' h' w' v x → next (a.put o.dst x) w') : o.wp P a w next Q := by
  obtain ⟨v, x, h', c', w', hkk, hrun, hr, hx, hv⟩ := hd
  unfold Oper.wp
  rcases hrun with hrun | ⟨hrun, rfl⟩
  · rw [hrun, Oper.upon_value]; exact hk v x h' c' w' hkk hr hx hv
  · rw [hrun, Oper.upon_skip]; exact hk v _ h' c' w' hkk hr hx hv

theorem callFunc_run {f : FuncId} (hc : callable P f = true) (args : Array Value) : (callFunc f args).run P w = .ok (.enter f args) w := by
  unfold callable at hc
  split at hc
  · rename_i fn hf
    simp only [Bool.and_eq_true, bne_iff_ne, ne_eq] at hc
    obtain ⟨hb, hn⟩ := hc
    have hnone : fn.body.isNone = false := by cases hbb : fn.body <;> simp_all
    have hn' : (fn.name == "runtime.NumGoroutine") = false := by simpa using hn
    unfold callFunc
    rw [Sem.run_bind, run_program, Result.andThen_ok, hf]
    dsimp only
    rw [if_neg (by rw [hn']; decide), if_neg (by rw [hnone]; decide)]
    rfl
  · cases hc

theorem enter_wp {f : FuncId} {args : List SV} {xs : Array Value} (hr : Rep c h w) (hrun : (execOp a.eval o).run P w = .ok (.enter f xs) w) (hs : xs.size = args.length)
    (hv : ∀ (i : Nat) (v : SV) (x : Value), args[i]? = some v → xs[i]? = some x → VR c h w v x)
    (hp : ACall P f args h fun r h' => match r with | .ret v => k v h' | .pan v => kp v h')
    (hk : ∀ v x h' c' w', k v h' → Rep c' h' w' → Ext c h w c' h' w' → VR c' h' w' v x → next (a.put o.dst x) w')
    (hkp : ∀ v x h' c' w', kp v h' → Rep c' h' w' → Ext c h w c' h' w' → VR c' h' w' v x → Q (.panic [{ v := x, recovered := false }]) a w') : o.wp P a w next Q := by
  unfold Oper.wp
  rw [hrun, Oper.upon_enter]
  refine (hp.calls c w xs hr hs hv).mono fun en w' hpost => ?_
  obtain ⟨c', h', r, hkk, hr', hx', hres⟩ := hpost
  cases r with
  | ret v =>
    obtain ⟨x, rfl, hvx⟩ := hres
    exact hk v x h' c' w' hkk hr' hx' hvx
  | pan v =>
    obtain ⟨x, rfl, hvx⟩ := hres
    exact hkp v x h' c' w' hkk hr' hx' hvx

theorem panic_wp (hr : Rep c h w) {x : Operand} (he : ER c h w e a.tmps) (hrun : ∀ t y, a.eval x = .iface t y → (execOp a.eval o).run P w = .halt (.panic (.iface t y)) w)
    (hp : aop P Γ (.panic (cOpd x)) e h k kp)
    (hkp : ∀ v x h' c' w', kp v h' → Rep c' h' w' → Ext c h w c' h' w' → VR c' h' w' v x → Q (.panic [{ v := x, recovered := false }]) a w') : o.wp P a w next Q := by
  simp only [aop, evK_eq] at hp
  have hx := he.ev x
  split at hp
  · rename_i t v h1
    rw [h1] at hx
    obtain ⟨y, hy, hvy⟩ := hx.iface_inv
    unfold Oper.wp
    rw [hrun t y hy, Oper.upon_panic]
    exact hkp _ _ h c w hp hr .refl (.iface _ _ _ hvy)
  · exact hp.elim

theorem op_wp (hΓ : Γ.Ok P) (hr : Rep c h w) (he : ER c h w e a.tmps) (hp : aop P Γ (cOp P o.op) e h k kp)
    (hk : ∀ v x h' c' w', k v h' → Rep c' h' w' → Ext c h w c' h' w' → VR c' h' w' v x → next (a.put o.dst x) w')
    (hkp : ∀ v x h' c' w', kp v h' → Rep c' h' w' → Ext c h w c' h' w' → VR c' h' w' v x → Q (.panic [{ v := x, recovered := false }]) a w') : o.wp P a w next Q := by
  cases hop : o.op with
  | move x => rw [hop] at hp; exact ((sees_mov he (.inl hop) hp).does hr).wp hk
  | assign x => rw [hop] at hp; exact ((sees_mov he (.inr hop) hp).does hr).wp hk
  | pick x y z => rw [hop] at hp; exact ((sees_pick he hop hp).does hr).wp hk
  | alloc t =>
    rw [hop] at hp
    simp only [cOp] at hp
    split at hp
    · rename_i i hi
      split at hp
      · rename_i z hz
        cases hcond : rowT P t
        · rw [hcond] at hp; exact (does_alloc hr hop hi hz hp).wp hk
        · rw [hcond] at hp; exact (does_allocR hr hop hi hz hp).wp hk
      · exact hp.elim
    · exact hp.elim
  | box t x =>
    rw [hop] at hp
    simp only [cOp] at hp
    split at hp
    · rename_i i hi
      cases hcond : rowT P t
      · rw [hcond] at hp; exact (does_box hr he hop hi hp).wp hk
      · rw [hcond] at hp; exact (does_boxR hr he hop hi hp).wp hk
    · exact hp.elim
  | build t ps =>
    rw [hop] at hp
    simp only [cOp] at hp
    split at hp
    · rename_i fs i hu hi
      split at hp
      · rename_i z hz
        cases hcond : (!((ofVal 4 z).known && fs.toList.all fun f => (P.info? f.type).isSome))
        · rw [hcond] at hp
          simp only [Bool.not_eq_false', Bool.and_eq_true] at hcond
          simp only [cond_false] at hp
          split at hp
          · rename_i l hl; exact ((sees_build he hop hu hi hz hcond.1 hcond.2 hl hp).does hr).wp hk
          · exact hp.elim
        · rw [hcond] at hp; exact hp.elim
      · exact hp.elim
    · exact hp.elim
  | buildSlice t n ps =>
    rw [hop] at hp
    simp only [cOp] at hp
    split at hp
    · rename_i el hu
      split at hp
      · rename_i i hi
        split at hp
        · rename_i z hz
          cases hcond : (Nat.ble (n * i.size) 16777216 && (Nat.beq (ofVal 4 z).cells.length i.size && (ofVal 4 z).known))
          · rw [hcond] at hp; exact hp.elim
          · rw [hcond] at hp
            simp only [Bool.and_eq_true] at hcond
            exact (does_buildSlice hr he hop hu hi hz (Nat.le_of_ble_eq_true hcond.1) (Nat.eq_of_beq_eq_true hcond.2.1) hcond.2.2 hp).wp hk
        · exact hp.elim
      · exact hp.elim
    · exact hp.elim
  | load t x => exact ((sees_load hr he hop hp).does hr).wp hk
  | store t x y =>
    rw [hop] at hp
    simp only [cOp] at hp
    split at hp
    · rename_i i hi; exact (does_store hr he hop hi hp).wp hk
    · exact hp.elim
  | binOp op t x y yt =>
    rw [hop] at hp
    simp only [cOp] at hp
    split at hp
    · exact ((sees_bin he hop hp).does hr).wp hk
    · exact ((sees_bin he hop hp).does hr).wp hk
    · rename_i hu
      split at hp
      · exact ((sees_eqB (neg := false) he hop hu hp).does hr).wp hk
      · exact ((sees_eqB (neg := true) he hop hu hp).does hr).wp hk
      · exact hp.elim
    · rename_i u hu
      split at hp
      · rename_i i hi
        cases hcond : Nat.beq i.size 0
        · rw [hcond] at hp; exact ((sees_eqP (neg := false) hr he hop hu hi hp).does hr).wp hk
        · rw [hcond] at hp; exact hp.elim
      · rename_i i hi
        cases hcond : Nat.beq i.size 0
        · rw [hcond] at hp; exact ((sees_eqP (neg := true) hr he hop hu hi hp).does hr).wp hk
        · rw [hcond] at hp; exact hp.elim
      · exact hp.elim
    · rename_i fs hu
      cases hcond : (!P.stoodInHeld t && !P.eqGuardType P.depth t)
      · rw [hcond] at hp; exact hp.elim
      · rw [hcond] at hp
        simp only [Bool.and_eq_true, Bool.not_eq_true'] at hcond
        simp only [cond_true] at hp
        split at hp
        · rename_i ks hks; exact ((sees_eqA (neg := false) he hop hu hcond.1 hcond.2 hks hp).does hr).wp hk
        · rename_i ks hks; exact ((sees_eqA (neg := true) he hop hu hcond.1 hcond.2 hks hp).does hr).wp hk
        · exact hp.elim
    · exact hp.elim
  | unOp u t x => rw [hop] at hp; exact ((sees_un he hop hp).does hr).wp hk
  | convert s d x =>
    rw [hop] at hp
    simp only [cOp] at hp
    split at hp
    · rename_i hs hd; exact ((sees_conv he hop hs hd hp).does hr).wp hk
    · rename_i hs hd; exact ((sees_strConv he hop hs hd hp).does hr).wp hk
    · rename_i el hs hd
      split at hp
      · rename_i i hel hi
        cases hcond : Nat.beq i.size 1
        · rw [hcond] at hp; exact hp.elim
        · rw [hcond] at hp; exact ((sees_toStr hr he hop hs hel hd hp).does hr).wp hk
      · exact hp.elim
    · rename_i u hs hd
      split at hp
      · rename_i i hi
        cases hcond : Nat.beq i.size 0
        · rw [hcond] at hp; exact ((sees_toUns hr he hop hs hd hi (fun hz => by rw [hz] at hcond; simp at hcond) hp).does hr).wp hk
        · rw [hcond] at hp; exact hp.elim
      · exact hp.elim
    · rename_i u hs hd
      split at hp
      · rename_i i hi
        cases hcond : (!Nat.beq i.size 0 && (Nat.beq (P.cellsOf u) i.size && liesAt P P.depth u 1 0 u 1))
        · rw [hcond] at hp; exact hp.elim
        · rw [hcond] at hp
          simp only [Bool.and_eq_true, Bool.not_eq_true'] at hcond
          exact ((sees_fromUns hr he hop hs hd hi (fun hz => by rw [hz] at hcond; simp at hcond) (Nat.eq_of_beq_eq_true hcond.2.1) hcond.2.2 hp).does hr).wp hk
      · exact hp.elim
    · rename_i el hs hd
      split at hp
      · rename_i i hel hi
        cases hcond : Nat.beq i.size 1
        · rw [hcond] at hp; exact hp.elim
        · rw [hcond] at hp; exact (does_toBytes hr he hop hs hd hel hp).wp hk
      · exact hp.elim
    · exact hp.elim
  | makeFunc fn xs ys => rw [hop] at hp; exact ((sees_mkFunc he hop hp).does hr).wp hk
  | makeInterface t x =>
    rw [hop] at hp
    simp only [cOp] at hp
    split at hp
    · exact hp.elim
    · rename_i d hd hu; exact ((sees_mkIface he hop hu (fun ms hh => hd ms hh) hp).does hr).wp hk
    · exact hp.elim
  | slice t x lo hi mx =>
    rw [hop] at hp
    cases mx with
    | some m => exact hp.elim
    | none =>
    simp only [cOp] at hp
    split at hp
    · rename_i el hu
      split at hp
      · rename_i i hi'; exact ((sees_slice he hop hu hi' hp).does hr).wp hk
      · exact hp.elim
    · rename_i hu; exact ((sees_sliceStr he hop hu hp).does hr).wp hk
    · rename_i n el hu
      split at hp
      · rename_i i hi'
        cases hcond : Nat.beq i.size 1
        · rw [hcond] at hp; exact hp.elim
        · rw [hcond] at hp; exact ((sees_sliceArr hr he hop hu hi' (Nat.eq_of_beq_eq_true hcond) hp).does hr).wp hk
      · exact hp.elim
    · exact hp.elim
  | fieldAddr t x f =>
    rw [hop] at hp
    simp only [cOp] at hp
    split at hp
    · rename_i fs hu
      split at hp
      · rename_i fd hf
        split at hp
        · rename_i i hi
          cases hcond : Nat.beq i.size 0
          · rw [hcond] at hp
            exact ((sees_fieldAddr he hop hu hf hi (fun hz => by rw [hz] at hcond; simp at hcond) hp).does hr).wp hk
          · rw [hcond] at hp; exact hp.elim
        · exact hp.elim
      · exact hp.elim
    · exact hp.elim
  | field t x f =>
    rw [hop] at hp
    simp only [cOp] at hp
    split at hp
    · rename_i fs hu
      split at hp
      · rename_i fd hf
        split at hp
        · rename_i i hag hi; exact (((sees_field he hop hu hf).2 i hag hi hp).does hr).wp hk
        · rename_i hag; exact (((sees_field he hop hu hf).1 hag hp).does hr).wp hk
        · exact hp.elim
      · exact hp.elim
    · exact hp.elim
  | indexAddr t x i =>
    rw [hop] at hp
    simp only [cOp] at hp
    split at hp
    · rename_i el hu
      split at hp
      · rename_i ti hti; exact ((sees_indexAddr he hop hu hti hp).does hr).wp hk
      · exact hp.elim
    · rename_i n el hu
      split at hp
      · rename_i ti hti; exact ((sees_indexArr hr he hop hu hti hp).does hr).wp hk
      · exact hp.elim
    · exact hp.elim
  | index t x i =>
    rw [hop] at hp
    simp only [cOp] at hp
    split at hp
    · rename_i hu; exact ((sees_index he hop hu hp).does hr).wp hk
    · exact hp.elim
  | extract x i => rw [hop] at hp; exact ((sees_extract he hop hp).does hr).wp hk
  | makeSlice t l cc =>
    rw [hop] at hp
    simp only [cOp] at hp
    split at hp
    · rename_i el hu
      split at hp
      · rename_i i hi
        split at hp
        · rename_i z hz
          cases hcond : (Nat.beq (ofVal 4 z).cells.length i.size && (ofVal 4 z).known)
          · rw [hcond] at hp; exact hp.elim
          · rw [hcond] at hp
            simp only [Bool.and_eq_true] at hcond
            exact (does_makeSlice hr he hop hu hi hz (Nat.eq_of_beq_eq_true hcond.1) hcond.2 hp).wp hk
        · exact hp.elim
      · exact hp.elim
    · exact hp.elim
  | call cl =>
    rw [hop] at hp
    simp only [cOp] at hp
    split at hp
    · rename_i f hcl
      cases hcond : callable P f
      · rw [hcond] at hp
        simp only [cond_false] at hp
        split at hp
        · rename_i fn x hf hargs
          cases hcond2 : (fn.body.isNone && (fn.name == "internal/abi.NoEscape" && fn.origin == ""))
          · rw [hcond2] at hp
            simp only [cond_false] at hp
            cases hcond3 : (fn.body.isNone && (fn.name == "internal/bytealg.MakeNoZero" && fn.origin == ""))
            · rw [hcond3] at hp; exact hp.elim
            · rw [hcond3] at hp
              simp only [Bool.and_eq_true, beq_iff_eq] at hcond3
              simp only [cond_true] at hp
              split at hp
              · rename_i t hrt
                split at hp
                · rename_i el hu; exact (does_mkNoZero hr he hop hcl hargs hf hcond3.1 hcond3.2.1 hcond3.2.2 hrt hu hp).wp hk
                · exact hp.elim
              · exact hp.elim
          · rw [hcond2] at hp
            simp only [Bool.and_eq_true, beq_iff_eq] at hcond2
            exact ((sees_noEsc he hop hcl hargs hf hcond2.1 hcond2.2.1 hcond2.2.2 hp).does hr).wp hk
        · rename_i fn x y hf hargs
          cases hcond2 : (fn.body.isNone && fn.origin == "")
          · rw [hcond2] at hp; exact hp.elim
          · rw [hcond2] at hp
            simp only [Bool.and_eq_true, beq_iff_eq] at hcond2
            simp only [cond_true] at hp
            split at hp
            · rename_i i hid; exact ((sees_ext1 he hop hcl hargs hf hcond2.1 hid hcond2.2 hp).does hr).wp hk
            · exact hp.elim
        · exact hp.elim
      · rw [hcond] at hp
        simp only [cond_true, aop, evsK_eq] at hp
        refine enter_wp hr (xs := cl.args.map a.eval) ?_ (by simp) (evs_rel he cl.args) (hΓ.call _ _ _ _ hp) hk hkp
        simp [execOp, hop, resolve, hcl, Act.eval, Deferred.ofValue, invoke, callFunc_run hcond]
    · rename_i v hnf hcl
      simp only [aop, evK_eq] at hp
      have hv := he.ev v
      split at hp
      · rename_i f first cap h1
        rw [h1] at hv
        replace hp := asr_iff.1 hp
        obtain ⟨hcond, hp⟩ := hp
        rw [evsK_eq] at hp
        obtain ⟨a', b', hvv, ha, hb, hva, hvb⟩ := hv.func_inv
        refine enter_wp hr (xs := a' ++ (cl.args.map a.eval ++ b')) ?_ (by simp [ha, hb]) (fun i u y hu hy => ?_) (hΓ.call _ _ _ _ hp) hk hkp
        · simp [execOp, hop, resolve, hcl, hvv, Deferred.ofValue, invoke, callFunc_run hcond]
        · rw [List.getElem?_append] at hu
          rw [Array.getElem?_append] at hy
          by_cases hi : i < first.length
          · rw [if_pos hi] at hu
            rw [if_pos (by omega)] at hy
            exact hva i u y hu hy
          · rw [if_neg hi] at hu
            rw [if_neg (by omega)] at hy
            rw [List.getElem?_append] at hu
            rw [Array.getElem?_append] at hy
            simp only [List.length_map, Array.length_toList, Array.size_map] at hu hy
            by_cases hi2 : i - first.length < cl.args.size
            · rw [if_pos hi2] at hu
              rw [if_pos (by omega)] at hy
              rw [ha] at hy
              exact evs_rel he cl.args _ u y hu hy
            · rw [if_neg hi2] at hu
              rw [if_neg (by omega)] at hy
              rw [ha] at hy
              exact hvb _ u y hu hy
      · exact hp.elim
    · rename_i hcl
      split at hp
      · rename_i x t hargs htys
        split at hp
        · rename_i hu; exact ((sees_len (b := true) he hop hcl hargs htys hu hp).does hr).wp hk
        · rename_i el hu; exact ((sees_len (b := false) he hop hcl hargs htys ⟨el, hu⟩ hp).does hr).wp hk
        · exact hp.elim
      · exact hp.elim
    · rename_i hcl
      split at hp
      · rename_i x t hargs htys
        split at hp
        · rename_i el hu; exact ((sees_capOf he hop hcl hargs htys hu hp).does hr).wp hk
        · exact hp.elim
      · exact hp.elim
    · rename_i hcl
      split at hp
      · rename_i x y t u hargs htys
        split at hp
        · rename_i el hu
          split at hp
          · rename_i i hi; exact ((sees_copyZ he hop hcl hargs htys hu hi hp).does hr).wp hk
          · exact hp.elim
        · exact hp.elim
      · exact hp.elim
    · rename_i hcl
      split at hp
      · rename_i x hargs; exact ((sees_sliceData he hop hcl hargs hp).does hr).wp hk
      · exact hp.elim
    · rename_i hcl
      split at hp
      · rename_i x y t t2 hargs htys
        split at hp
        · rename_i el hu
          cases hcond : Nat.beq (P.cellsOf el) 1
          · rw [hcond] at hp; exact hp.elim
          · rw [hcond] at hp; exact (does_unsStr hr he hop hcl hargs htys hu (Nat.eq_of_beq_eq_true hcond) hp).wp hk
        · exact hp.elim
      · exact hp.elim
    · rename_i hcl
      split at hp
      · rename_i x y hargs; exact ((sees_mm (m := false) he hop hcl hargs hp).does hr).wp hk
      · exact hp.elim
    · rename_i hcl
      split at hp
      · rename_i x y hargs; exact ((sees_mm (m := true) he hop hcl hargs hp).does hr).wp hk
      · exact hp.elim
    · rename_i hcl
      split at hp
      · rename_i x hargs
        have hargs' : cl.args = #[x] := by simpa using congrArg List.toArray hargs
        exact panic_wp hr he (fun t y hy => by simp [execOp, hop, resolve, hcl, hargs', invoke, builtin, hy, Instr.panic]) hp hkp
      · exact hp.elim
    · rename_i hcl
      split at hp
      · rename_i x y t u hargs htys
        split at hp
        · rename_i el hu
          cases hcond : sliceOrStr (P.underlying u)
          · rw [hcond] at hp; exact hp.elim
          · rw [hcond] at hp
            have hku : (∃ e', P.underlying u = some (.slice e')) ∨ P.underlying u = some .string := by
              unfold sliceOrStr at hcond
              split at hcond
              · rename_i e' h1; exact .inl ⟨e', h1⟩
              · rename_i h1; exact .inr h1
              · cases hcond
            simp only [cond_true] at hp
            split at hp
            · rename_i i hi
              split at hp
              · rename_i z hz
                cases hcond2 : (Nat.beq (ofVal 4 z).cells.length i.size && (ofVal 4 z).known)
                · rw [hcond2] at hp; exact hp.elim
                · rw [hcond2] at hp
                  simp only [Bool.and_eq_true] at hcond2
                  exact (does_append hr he hop hcl hargs htys hu hku hi hz (Nat.eq_of_beq_eq_true hcond2.1) hcond2.2 hp).wp hk
              · exact hp.elim
            · exact hp.elim
        · exact hp.elim
      · exact hp.elim
    · exact hp.elim
  | nilCheck x => rw [hop] at hp; exact ((sees_nilChk he hop hp).does hr).wp hk
  | panic x => rw [hop] at hp; exact panic_wp hr he (fun t y hy => by simp [execOp, hop, hy, Instr.panic]) hp hkp
  | _ => rw [hop] at hp; exact hp.elim
end
theorem put_size (a : Act) (d : Option Nat) (v : Value) : (a.put d v).tmps.size = a.tmps.size := by cases d <;> simp [Act.put]
theorem put_defers (a : Act) (d : Option Nat) (v : Value) : (a.put d v).defers = a.defers := by cases d <;> rfl
end Ab
namespace Ab
set_option linter.unusedVariables false
set_option linter.unusedSimpArgs false
open Go

def AOpd.use : AOpd → List Nat
  | .tmp t => [t]
  | .const _ => []
def optUse : Option AOpd → List Nat
  | some x => x.use
  | none => []
/-- The slots that an operation reads. -/
def AOp.uses : AOp → List Nat
  | .mov x | .box _ _ x | .boxR _ _ x | .loadS x | .loadA _ x | .un _ x | .conv _ x | .strMov x | .toStr x | .toBytes _ x | .mkIface _ x | .fieldAddr _ x | .fieldS _ x | .fieldA _ _ x | .extract x _ | .len _ x | .panic x | .nilChk x | .toUns x | .fromUns _ _ x | .noEsc x | .sliceData x | .capOf x | .mkNoZero _ x => x.use
  | .pick c a b => c.use ++ (a.use ++ b.use)
  | .build _ parts => parts.flatMap fun p => p.2.2.use
  | .buildSlice _ _ _ _ parts => parts.flatMap fun p => p.2.use
  | .store _ x v => x.use ++ v.use
  | .bin _ x y | .eqA _ _ x y | .eqB _ x y | .eqP _ x y | .unsStr _ x y | .ext1 _ x y | .copyZ x y | .index x y | .mm _ x y => x.use ++ y.use
  | .indexAddr _ x y | .indexArr _ _ x y | .makeSlice _ _ _ _ x y | .append _ _ _ x y => x.use ++ y.use
  | .mkFunc _ a b => a.flatMap AOpd.use ++ b.flatMap AOpd.use
  | .slice _ x lo hi | .sliceStr x lo hi | .sliceArr _ x lo hi => x.use ++ (optUse lo ++ optUse hi)
  | .call _ args => args.flatMap AOpd.use
  | .callv f args => f.use ++ args.flatMap AOpd.use
  | .bad => []
/-- 0: it asks nothing of memory; 1: it reads memory alone; 2: it acts. -/
def AOp.cls : AOp → Nat
  | .mov _ | .pick .. | .build .. | .bin .. | .eqA .. | .eqB .. | .un .. | .conv .. | .strMov _ | .mkFunc .. | .mkIface .. | .sliceStr .. | .fieldS .. | .fieldA .. | .index .. | .extract .. | .mm .. | .noEsc _ | .ext1 .. | .bad => 0
  | .loadS _ | .loadA .. | .slice .. | .fieldAddr .. | .indexAddr .. | .indexArr .. | .len .. | .toStr .. | .nilChk .. | .toUns .. | .fromUns .. | .eqP .. | .sliceData .. | .capOf .. => 1
  | _ => 2

section
variable {P : Program} {Γ : CallR} {e e' : Env} {h : Heap} {k : SV → Heap → Prop} {kp : SV → Heap → Prop}

theorem ev_congr {x : AOpd} (hE : ∀ t ∈ x.use, Env.get e t = Env.get e' t) : x.ev e = x.ev e' := by
  cases x with
  | tmp t => exact hE t (by simp [AOpd.use])
  | const v => rfl
theorem evs_congr : ∀ {l : List AOpd}, (∀ t ∈ l.flatMap AOpd.use, Env.get e t = Env.get e' t) → l.map (AOpd.ev e) = l.map (AOpd.ev e')
  | [], _ => rfl
  | x :: r, hE => by
    simp only [List.flatMap_cons, List.mem_append] at hE
    rw [List.map_cons, List.map_cons, ev_congr fun t ht => hE t (.inl ht), evs_congr fun t ht => hE t (.inr ht)]
theorem oev_congr {d : Int} {x : Option AOpd} {K : Int → Prop} (hE : ∀ t ∈ optUse x, Env.get e t = Env.get e' t) : oevK e d x K = oevK e' d x K := by
  cases x with
  | none => rfl
  | some x => simp only [oevK, evK_eq, ev_congr (x := x) hE]
theorem parts_congr : ∀ {l : List (Nat × Nat × AOpd)} {cs : List SV} {K : List SV → Prop}, (∀ t ∈ l.flatMap (fun p => p.2.2.use), Env.get e t = Env.get e' t) → fillParts e l cs K = fillParts e' l cs K
  | [], _, _, _ => rfl
  | (off, sz, x) :: r, cs, K, hE => by
    simp only [List.flatMap_cons, List.mem_append] at hE
    simp only [fillParts, evK_eq, ev_congr (x := x) fun t ht => hE t (.inl ht), parts_congr (l := r) fun t ht => hE t (.inr ht)]
theorem elems_congr {sz : Nat} : ∀ {l : List (Nat × AOpd)} {cs : List SV} {K : List SV → Prop}, (∀ t ∈ l.flatMap (fun p => p.2.use), Env.get e t = Env.get e' t) → fillElems sz e l cs K = fillElems sz e' l cs K
  | [], _, _, _ => rfl
  | (i, x) :: r, cs, K, hE => by
    simp only [List.flatMap_cons, List.mem_append] at hE
    simp only [fillElems, evK_eq, ev_congr (x := x) fun t ht => hE t (.inl ht), elems_congr (l := r) fun t ht => hE t (.inr ht)]

/-- An operation asks the slots that it reads, and no other. -/
theorem aop_congr {o : AOp} (hE : ∀ t ∈ o.uses, Env.get e t = Env.get e' t) : aop P Γ o e h k kp = aop P Γ o e' h k kp := by
  cases o with
  | mov x | box _ _ x | boxR _ _ x | nilChk x | toUns x | fromUns _ _ x | noEsc x | sliceData x | capOf x | mkNoZero _ x | loadS x | loadA _ x | un _ x | conv _ x | strMov x | mkIface _ x | fieldAddr _ x | fieldS _ x | fieldA _ _ x | extract x _ | len _ x | panic x =>
    simp only [aop, evK_eq, ev_congr (x := x) hE]
  | toStr x | toBytes _ x => simp only [aop, evK_eq, ev_congr (x := x) hE]
  | pick c a b =>
    simp only [AOp.uses, List.mem_append] at hE
    simp only [aop, evK_eq, ev_congr (x := c) fun t ht => hE t (.inl ht), ev_congr (x := a) fun t ht => hE t (.inr (.inl ht)), ev_congr (x := b) fun t ht => hE t (.inr (.inr ht))]
  | build z parts => simp only [aop]; exact parts_congr hE
  | buildSlice ty sz z n parts => simp only [aop, replK_eq]; exact elems_congr hE
  | store n x y | bin _ x y | eqA _ _ x y | eqB _ x y | eqP _ x y | unsStr _ x y | ext1 _ x y | copyZ x y | index x y | mm _ x y | indexAddr _ x y | indexArr _ _ x y | makeSlice _ _ _ _ x y | append _ _ _ x y =>
    simp only [AOp.uses, List.mem_append] at hE
    simp only [aop, evK_eq, ev_congr (x := x) fun t ht => hE t (.inl ht), ev_congr (x := y) fun t ht => hE t (.inr ht)]
  | mkFunc fn a b =>
    simp only [AOp.uses, List.mem_append] at hE
    simp only [aop, evsK_eq, evs_congr (l := a) fun t ht => hE t (.inl ht), evs_congr (l := b) fun t ht => hE t (.inr ht)]
  | slice sz x lo hi | sliceStr x lo hi | sliceArr n x lo hi =>
    simp only [AOp.uses, List.mem_append] at hE
    simp only [aop, evK_eq, ev_congr (x := x) fun t ht => hE t (.inl ht), oev_congr (x := lo) fun t ht => hE t (.inr (.inl ht)), oev_congr (x := hi) fun t ht => hE t (.inr (.inr ht))]
  | call f args => simp only [aop, evsK_eq, evs_congr (l := args) hE]
  | callv f args =>
    simp only [AOp.uses, List.mem_append] at hE
    simp only [aop, evK_eq, evsK_eq, ev_congr (x := f) fun t ht => hE t (.inl ht), evs_congr (l := args) fun t ht => hE t (.inr ht)]
  | bad => rfl

theorem cellsK_and {v : SV} {p : List SV → Prop} (h : v.cellsK p) : p v.cells ∧ ∀ q : List SV → Prop, q v.cells → v.cellsK q := by
  obtain ⟨hu, hp⟩ := cellsK_iff.1 h
  exact ⟨hp, fun q hq => cellsK_iff.2 ⟨hu, hq⟩⟩

/-- It comes to one value, whatever is asked of that. -/
def Det (A : (SV → Prop) → Prop) (K : SV → Prop) : Prop := ∃ v, K v ∧ A (fun v' => v' = v)

theorem readP_det {p : SV} {K : List SV → Nat → Prop} (hp : readP h p K) : ∃ cs sub, K cs sub ∧ ∀ K' : List SV → Nat → Prop, K' cs sub → readP h p K' := by
  unfold readP at hp
  split at hp
  · obtain ⟨h1, h2⟩ := cellsK_and hp
    exact ⟨_, _, h1, fun K' hk => by unfold readP; exact h2 _ hk⟩
  · rename_i g
    split at hp
    · rename_i v hv
      obtain ⟨h1, h2⟩ := cellsK_and hp
      exact ⟨_, _, h1, fun K' hk => by unfold readP; simp only [hv]; exact h2 _ hk⟩
    · exact hp.elim
  · rename_i i g idx sub
    obtain ⟨n, l⟩ := h
    simp only [lookO_eq] at hp
    split at hp
    · rename_i o ho
      split at hp
      · rename_i g' sz elems sk
        replace hp := asr_iff.1 hp
        obtain ⟨hg, hp⟩ := hp
        split at hp
        · rename_i v hv
          obtain ⟨h1, h2⟩ := cellsK_and hp
          refine ⟨_, _, h1, fun K' hk => ?_⟩
          unfold readP
          simp only [lookO_eq, ho, hv]
          exact asr_iff.2 ⟨hg, h2 _ hk⟩
        · exact hp.elim
      · exact hp.elim
    · exact hp.elim
  · exact hp.elim

theorem arith_det {op : BinOp} {a b : IntKind} {x y : Int} {K : SV → Prop} (hp : arith op a b x y K) : ∃ v, K v ∧ ∀ K' : SV → Prop, K' v → arith op a b x y K' := by
  unfold arith at hp
  split at hp
  · replace hp := asr_iff.1 hp; exact ⟨_, hp.2, fun K' hk => asr_iff.2 ⟨hp.1, hk⟩⟩
  · replace hp := asr_iff.1 hp; exact ⟨_, hp.2, fun K' hk => asr_iff.2 ⟨hp.1, hk⟩⟩
  · rename_i hs1 hs2
    replace hp := asr_iff.1 hp
    obtain ⟨h1, hp⟩ := hp
    have hrw : ∀ K' : SV → Prop, arith op a b x y K' = asr (kEq a b) (match op with
      | .add => K' (.int a (a.wrap (x + y)))
      | .sub => K' (.int a (a.wrap (x - y)))
      | .mul => K' (.int a (a.wrap (x * y)))
      | .quo => asr (!decide (y = 0)) (K' (.int a (a.wrap (x.tdiv y))))
      | .rem => asr (!decide (y = 0)) (K' (.int a (x.tmod y)))
      | .eql => K' (.bool (x == y))
      | .neq => K' (.bool (x != y))
      | .lss => K' (.bool (decide (x < y)))
      | .leq => K' (.bool (decide (x ≤ y)))
      | .gtr => K' (.bool (decide (y < x)))
      | .geq => K' (.bool (decide (y ≤ x)))
      | .and => K' (.int a (bitsI .and a x y))
      | .or => K' (.int a (bitsI .or a x y))
      | .xor => K' (.int a (bitsI .xor a x y))
      | .andNot => K' (.int a (bitsI .andNot a x y))
      | _ => False) := fun K' => by cases op <;> first | rfl | exact absurd rfl hs1 | exact absurd rfl hs2
    cases op <;> first
      | exact absurd rfl hs1
      | exact absurd rfl hs2
      | (exact ⟨_, hp, fun K' hk => by rw [hrw]; exact asr_iff.2 ⟨h1, hk⟩⟩)
      | (replace hp := asr_iff.1 hp; exact ⟨_, hp.2, fun K' hk => by rw [hrw]; exact asr_iff.2 ⟨h1, asr_iff.2 ⟨hp.1, hk⟩⟩⟩)
theorem strOp_det {op : BinOp} {x y : List UInt8} {K : SV → Prop} (hp : strOp op x y K) : ∃ v, K v ∧ ∀ K' : SV → Prop, K' v → strOp op x y K' := by
  cases op <;> simp only [strOp] at hp ⊢ <;> first
    | exact hp.elim
    | exact ⟨_, hp, fun K' hk => hk⟩
    | (replace hp := asr_iff.1 hp; exact ⟨_, hp.2, fun K' hk => asr_iff.2 ⟨hp.1, hk⟩⟩)
theorem parts_det : ∀ {l : List (Nat × Nat × AOpd)} {cs : List SV} {K : List SV → Prop}, fillParts e l cs K → ∃ cs', K cs' ∧ ∀ K' : List SV → Prop, K' cs' → fillParts e l cs K'
  | [], cs, K, hp => ⟨cs, hp, fun K' hk => hk⟩
  | (off, sz, x) :: r, cs, K, hp => by
    simp only [fillParts, evK_eq] at hp ⊢
    obtain ⟨h1, h2⟩ := cellsK_and hp
    replace h1 := asr_iff.1 h1
    obtain ⟨h3, h1⟩ := h1
    obtain ⟨h4, h1⟩ := setRun_iff.1 h1
    obtain ⟨cs', hk, hd⟩ := parts_det h1
    exact ⟨cs', hk, fun K' hk' => h2 _ (asr_iff.2 ⟨h3, setRun_iff.2 ⟨h4, hd K' hk'⟩⟩)⟩
theorem oev_det {d : Int} {x : Option AOpd} {K : Int → Prop} (hp : oevK e d x K) : ∃ n, K n ∧ ∀ K' : Int → Prop, K' n → oevK e d x K' := by
  cases x with
  | none => exact ⟨d, hp, fun K' hk => hk⟩
  | some x =>
    simp only [oevK, evK_eq] at hp ⊢
    split at hp
    · exact ⟨_, hp, fun K' hk => hk⟩
    · exact hp.elim
theorem idxK_det {i g idx sub j sz : Nat} {K : SV → Prop} (hp : idxK h i g idx sub j sz K) : ∃ v, K v ∧ ∀ K' : SV → Prop, K' v → idxK h i g idx sub j sz K' := by
  obtain ⟨n, l⟩ := h
  simp only [idxK, lookO_eq] at hp ⊢
  split at hp
  · rename_i o ho
    split at hp
    · rename_i g' sz' elems sk
      replace hp := asr_iff.1 hp
      obtain ⟨hg, hp⟩ := hp
      cases hs : Nat.beq sz' sz
      · rw [hs] at hp
        exact ⟨_, hp, fun K' hk => by simp only [ho]; exact asr_iff.2 ⟨hg, hk⟩⟩
      · rw [hs] at hp
        exact ⟨_, hp, fun K' hk => by simp only [ho]; exact asr_iff.2 ⟨hg, hk⟩⟩
    · exact hp.elim
  · exact hp.elim
theorem liveK_det {i g : Nat} {p : Prop} (hp : liveK h i g p) : p ∧ ∀ q : Prop, q → liveK h i g q := by
  obtain ⟨hp', sz, elems, sk, ho⟩ := liveK_inv hp
  refine ⟨hp', fun q hq => ?_⟩
  obtain ⟨n, l⟩ := h
  unfold liveK
  simp only [lookO_eq]
  have ho' : objL l i = some (.vec g sz elems sk) := ho
  rw [ho']
  exact asr_iff.2 ⟨by simp, hq⟩

theorem eqPK_det {x y : SV} {K : Bool → Prop} (hp : eqPK h x y K) : ∃ b, K b ∧ ∀ K' : Bool → Prop, K' b → eqPK h x y K' := by
  unfold eqPK at hp ⊢
  split at hp
  · exact ⟨_, hp, fun K' hk => hk⟩
  · obtain ⟨hp, dl⟩ := liveK_det hp; exact ⟨_, hp, fun K' hk => dl _ hk⟩
  · obtain ⟨hp, dl⟩ := liveK_det hp; exact ⟨_, hp, fun K' hk => dl _ hk⟩
  · replace hp := asr_iff.1 hp
    obtain ⟨h1, hp⟩ := hp
    obtain ⟨hp, dl⟩ := liveK_det hp; exact ⟨_, hp, fun K' hk => asr_iff.2 ⟨h1, dl _ hk⟩⟩
  · exact hp.elim
theorem elemsK_det {sz : Nat} {x : SV} {K : List SV → Prop} (hp : elemsK h sz x K) : ∃ xs, K xs ∧ ∀ K' : List SV → Prop, K' xs → elemsK h sz x K' := by
  unfold elemsK at hp ⊢
  split at hp
  · exact ⟨_, hp, fun K' hk => hk⟩
  · replace hp := asr_iff.1 hp
    obtain ⟨h1, hp⟩ := hp
    rw [strK_eq] at hp
    exact ⟨_, hp, fun K' hk => asr_iff.2 ⟨h1, by rw [strK_eq]; exact hk⟩⟩
  · replace hp := asr_iff.1 hp
    obtain ⟨h1, hp⟩ := hp
    rw [rangeK_eq] at hp
    exact ⟨_, hp, fun K' hk => asr_iff.2 ⟨h1, by rw [rangeK_eq]; exact hk⟩⟩
  · replace hp := asr_iff.1 hp
    obtain ⟨h1, hp⟩ := hp
    obtain ⟨n, l⟩ := h
    simp only [lookO_eq] at hp
    split at hp
    · rename_i ob hob
      split at hp
      · replace hp := asr_iff.1 hp
        obtain ⟨h2, hp⟩ := hp
        obtain ⟨h3, hp⟩ := dropN_iff.1 hp
        obtain ⟨h4, hp⟩ := takeN_iff.1 hp
        refine ⟨_, hp, fun K' hk => asr_iff.2 ⟨h1, ?_⟩⟩
        simp only [lookO_eq, hob]
        exact asr_iff.2 ⟨h2, dropN_iff.2 ⟨h3, takeN_iff.2 ⟨h4, hk⟩⟩⟩
      · exact hp.elim
    · exact hp.elim
  · exact hp.elim

theorem aop_det0 {o : AOp} (hc : o.cls = 0) (hp : aop P Γ o e h k kp) : ∃ v, k v h ∧ ∀ (h' : Heap) (K' kp' : SV → Heap → Prop), K' v h' → aop P Γ o e h' K' kp' := by
  cases o <;> simp only [AOp.cls, reduceCtorEq] at hc <;> try omega
  case mov x => simp only [aop, evK_eq] at hp ⊢; exact ⟨_, hp, fun h' K' kp' hk => hk⟩
  case pick c a b =>
    simp only [aop, evK_eq] at hp ⊢
    split at hp
    · rename_i x _
      cases x
      · exact ⟨_, hp, fun h' K' kp' hk => hk⟩
      · exact ⟨_, hp, fun h' K' kp' hk => hk⟩
    · exact hp.elim
  case build z parts =>
    simp only [aop] at hp ⊢
    obtain ⟨cs, hk, hd⟩ := parts_det hp
    exact ⟨_, hk, fun h' K' kp' hk' => hd _ hk'⟩
  case bin op x y =>
    simp only [aop, evK_eq] at hp ⊢
    split at hp
    · obtain ⟨v, hk, hd⟩ := arith_det hp; exact ⟨v, hk, fun h' K' kp' hk' => hd _ hk'⟩
    · obtain ⟨v, hk, hd⟩ := strOp_det hp; exact ⟨v, hk, fun h' K' kp' hk' => hd _ hk'⟩
    · exact hp.elim
  case eqA neg ks x y =>
    simp only [aop, evK_eq] at hp ⊢
    split at hp
    · split at hp
      · rename_i p hq
        cases neg <;> exact ⟨_, hp, fun h' K' kp' hk => by simpa only [hq] using hk⟩
      · exact hp.elim
    · exact hp.elim
  case eqB neg x y =>
    simp only [aop, evK_eq] at hp ⊢
    split at hp
    · cases neg <;> exact ⟨_, hp, fun h' K' kp' hk => hk⟩
    · exact hp.elim
  case un op x =>
    simp only [aop, evK_eq] at hp ⊢
    split at hp <;> first | exact ⟨_, hp, fun h' K' kp' hk => hk⟩ | exact hp.elim
  case conv kk x =>
    simp only [aop, evK_eq] at hp ⊢
    split at hp <;> first | exact ⟨_, hp, fun h' K' kp' hk => hk⟩ | exact hp.elim
  case strMov x =>
    simp only [aop, evK_eq] at hp ⊢
    split at hp <;> first | exact ⟨_, hp, fun h' K' kp' hk => hk⟩ | exact hp.elim
  case mkFunc fn a b => simp only [aop, evsK_eq] at hp ⊢; exact ⟨_, hp, fun h' K' kp' hk => hk⟩
  case mkIface t x => simp only [aop, evK_eq] at hp ⊢; exact ⟨_, hp, fun h' K' kp' hk => hk⟩
  case sliceStr x lo hi =>
    simp only [aop, evK_eq] at hp ⊢
    split at hp
    · obtain ⟨l, h1, d1⟩ := oev_det hp
      obtain ⟨hh, h2, d2⟩ := oev_det h1
      replace h2 := asr_iff.1 h2
      exact ⟨_, h2.2, fun h' K' kp' hk => d1 _ (d2 _ (asr_iff.2 ⟨h2.1, hk⟩))⟩
    · exact hp.elim
  case fieldS off x =>
    simp only [aop, evK_eq] at hp ⊢
    split at hp
    · split at hp
      · rename_i v hv; exact ⟨_, hp, fun h' K' kp' hk => by simpa only [hv] using hk⟩
      · exact hp.elim
    · exact hp.elim
  case fieldA off n x =>
    simp only [aop, evK_eq] at hp ⊢
    split at hp
    · obtain ⟨h1, hp⟩ := dropN_iff.1 hp
      obtain ⟨h2, hp⟩ := takeN_iff.1 hp
      exact ⟨_, hp, fun h' K' kp' hk => dropN_iff.2 ⟨h1, takeN_iff.2 ⟨h2, hk⟩⟩⟩
    · exact hp.elim
  case index x i =>
    simp only [aop, evK_eq] at hp ⊢
    split at hp
    · replace hp := asr_iff.1 hp; exact ⟨_, hp.2, fun h' K' kp' hk => asr_iff.2 ⟨hp.1, hk⟩⟩
    · exact hp.elim
  case extract x i =>
    simp only [aop, evK_eq] at hp ⊢
    split at hp
    · split at hp
      · rename_i v hv; exact ⟨_, hp, fun h' K' kp' hk => by simpa only [hv] using hk⟩
      · exact hp.elim
    · exact hp.elim
  case mm m x y =>
    simp only [aop, evK_eq] at hp ⊢
    split at hp
    · cases m <;> exact ⟨_, hp, fun h' K' kp' hk => hk⟩
    · exact hp.elim
  case ext1 id x y =>
    simp only [aop, evK_eq] at hp ⊢
    split at hp
    · exact ⟨_, hp, fun h' K' kp' hk => hk⟩
    · exact hp.elim
  case noEsc x => simp only [aop, evK_eq] at hp ⊢; exact ⟨_, hp, fun h' K' kp' hk => hk⟩
  case bad => exact hp.elim

theorem aop_det1 {o : AOp} (hc : o.cls ≤ 1) (hp : aop P Γ o e h k kp) : ∃ v, k v h ∧ ∀ (K' kp' : SV → Heap → Prop), K' v h → aop P Γ o e h K' kp' := by
  rcases Nat.lt_or_ge o.cls 1 with h0 | h1
  · obtain ⟨v, hk, hd⟩ := aop_det0 (by omega) hp
    exact ⟨v, hk, fun K' kp' hk' => hd h K' kp' hk'⟩
  have hc : o.cls = 1 := by omega
  clear h1
  cases o <;> simp only [AOp.cls, reduceCtorEq] at hc <;> try omega
  case loadS x =>
    simp only [aop, evK_eq] at hp ⊢
    obtain ⟨cs, sub, hk, hd⟩ := readP_det hp
    split at hk
    · rename_i v hv; exact ⟨_, hk, fun K' kp' hk' => hd _ (by simpa only [hv] using hk')⟩
    · exact hk.elim
  case loadA n x =>
    simp only [aop, evK_eq] at hp ⊢
    obtain ⟨cs, sub, hk, hd⟩ := readP_det hp
    obtain ⟨h1, hk⟩ := dropN_iff.1 hk
    obtain ⟨h2, hk⟩ := takeN_iff.1 hk
    exact ⟨_, hk, fun K' kp' hk' => hd _ (dropN_iff.2 ⟨h1, takeN_iff.2 ⟨h2, hk'⟩⟩)⟩
  case slice sz x lo hi =>
    simp only [aop, evK_eq] at hp ⊢
    split at hp
    · replace hp := asr_iff.1 hp
      obtain ⟨ha, hp⟩ := hp
      obtain ⟨l, h1, d1⟩ := oev_det hp
      obtain ⟨hh, h2, d2⟩ := oev_det h1
      replace h2 := asr_iff.1 h2
      exact ⟨_, h2.2, fun K' kp' hk => asr_iff.2 ⟨ha, d1 _ (d2 _ (asr_iff.2 ⟨h2.1, hk⟩))⟩⟩
    · rename_i cap _
      replace hp := asr_iff.1 hp
      obtain ⟨ha, hp⟩ := hp
      obtain ⟨hp, dl⟩ := liveK_det hp
      obtain ⟨l, h1, d1⟩ := oev_det hp
      obtain ⟨hh, h2, d2⟩ := oev_det h1
      replace h2 := asr_iff.1 h2
      obtain ⟨hb, h2⟩ := h2
      cases cap with
      | none =>
        replace h2 := asr_iff.1 h2
        exact ⟨_, h2.2, fun K' kp' hk => asr_iff.2 ⟨ha, dl _ (d1 _ (d2 _ (asr_iff.2 ⟨hb, asr_iff.2 ⟨h2.1, hk⟩⟩)))⟩⟩
      | some c =>
        replace h2 := asr_iff.1 h2
        exact ⟨_, h2.2, fun K' kp' hk => asr_iff.2 ⟨ha, dl _ (d1 _ (d2 _ (asr_iff.2 ⟨hb, asr_iff.2 ⟨h2.1, hk⟩⟩)))⟩⟩
    · obtain ⟨l, h1, d1⟩ := oev_det hp
      obtain ⟨hh, h2, d2⟩ := oev_det h1
      replace h2 := asr_iff.1 h2
      exact ⟨_, h2.2, fun K' kp' hk => d1 _ (d2 _ (asr_iff.2 ⟨h2.1, hk⟩))⟩
    · exact hp.elim
  case fieldAddr off x =>
    simp only [aop, evK_eq] at hp ⊢
    split at hp
    · obtain ⟨hp, dl⟩ := liveK_det hp; exact ⟨_, hp, fun K' kp' hk => dl _ hk⟩
    · exact ⟨_, hp, fun K' kp' hk => hk⟩
    · exact hp.elim
  case indexAddr sz x i =>
    simp only [aop, evK_eq] at hp ⊢
    split at hp
    · replace hp := asr_iff.1 hp
      obtain ⟨ha, hp⟩ := hp
      replace hp := asr_iff.1 hp
      exact ⟨_, hp.2, fun K' kp' hk => asr_iff.2 ⟨ha, asr_iff.2 ⟨hp.1, hk⟩⟩⟩
    · replace hp := asr_iff.1 hp
      obtain ⟨ha, hp⟩ := hp
      obtain ⟨hp, dl⟩ := liveK_det hp
      replace hp := asr_iff.1 hp
      exact ⟨_, hp.2, fun K' kp' hk => asr_iff.2 ⟨ha, dl _ (asr_iff.2 ⟨hp.1, hk⟩)⟩⟩
    · exact hp.elim
  case indexArr n sz x i =>
    simp only [aop, evK_eq] at hp ⊢
    split at hp
    · replace hp := asr_iff.1 hp
      obtain ⟨ha, hp⟩ := hp
      obtain ⟨v, hk, hd⟩ := idxK_det hp
      exact ⟨_, hk, fun K' kp' hk' => asr_iff.2 ⟨ha, hd (fun v => K' v h) hk'⟩⟩
    · replace hp := asr_iff.1 hp
      obtain ⟨ha, hp⟩ := hp
      split at hp
      · rename_i v hv
        exact ⟨_, hp, fun K' kp' hk => asr_iff.2 ⟨ha, hk⟩⟩
      · exact hp.elim
    · replace hp := asr_iff.1 hp
      exact ⟨_, hp.2, fun K' kp' hk => asr_iff.2 ⟨hp.1, hk⟩⟩
    · exact hp.elim
  case nilChk x =>
    simp only [aop, evK_eq] at hp ⊢
    split at hp
    · obtain ⟨hp, dl⟩ := liveK_det hp; exact ⟨_, hp, fun K' kp' hk => dl _ hk⟩
    · exact ⟨_, hp, fun K' kp' hk => hk⟩
    · exact ⟨_, hp, fun K' kp' hk => hk⟩
    · exact hp.elim
  case capOf x =>
    simp only [aop, evK_eq] at hp ⊢
    split at hp
    · exact ⟨_, hp, fun K' kp' hk => hk⟩
    · obtain ⟨hp, dl⟩ := liveK_det hp; exact ⟨_, hp, fun K' kp' hk => dl _ hk⟩
    · exact hp.elim
  case sliceData x =>
    simp only [aop, evK_eq] at hp ⊢
    split at hp
    · exact ⟨_, hp, fun K' kp' hk => hk⟩
    · replace hp := asr_iff.1 hp
      obtain ⟨h1, hp⟩ := hp
      obtain ⟨hp, dl⟩ := liveK_det hp; exact ⟨_, hp, fun K' kp' hk => asr_iff.2 ⟨h1, dl _ hk⟩⟩
    · exact hp.elim
  case toUns x =>
    obtain ⟨n, l⟩ := h
    simp only [aop, evK_eq] at hp ⊢
    split at hp
    · exact ⟨_, hp, fun K' kp' hk => hk⟩
    · rename_i hh
      cases hh
      simp only [lookO_eq] at hp
      split at hp
      · rename_i ob hob
        split at hp
        · replace hp := asr_iff.1 hp
          exact ⟨_, hp.2, fun K' kp' hk => by simp only [lookO_eq, hob]; exact asr_iff.2 ⟨hp.1, hk⟩⟩
        · exact hp.elim
      · exact hp.elim
    · exact hp.elim
  case fromUns u sz x =>
    obtain ⟨n, l⟩ := h
    simp only [aop, evK_eq] at hp ⊢
    split at hp
    · exact ⟨_, hp, fun K' kp' hk => hk⟩
    · rename_i hh
      cases hh
      simp only [lookO_eq] at hp
      split at hp
      · rename_i ob hob
        split at hp
        · replace hp := asr_iff.1 hp
          exact ⟨_, hp.2, fun K' kp' hk => by simp only [lookO_eq, hob]; exact asr_iff.2 ⟨hp.1, hk⟩⟩
        · exact hp.elim
      · exact hp.elim
    · exact hp.elim
  case eqP neg x y _ =>
    simp only [aop, evK_eq] at hp ⊢
    cases neg
    · obtain ⟨b, hk, hd⟩ := eqPK_det hp
      exact ⟨_, hk, fun K' kp' hk' => hd _ hk'⟩
    · obtain ⟨b, hk, hd⟩ := eqPK_det hp
      exact ⟨_, hk, fun K' kp' hk' => hd _ hk'⟩
  case toStr x =>
    simp only [aop, evK_eq] at hp ⊢
    split at hp
    · exact hp.elim
    · rename_i hne
      obtain ⟨xs, h1, d1⟩ := elemsK_det hp
      obtain ⟨ns, rfl, h2⟩ := bytesK_inv h1
      exact ⟨_, h2, fun K' kp' hk => d1 _ (bytesK_of hk)⟩
  case len b x =>
    simp only [aop, evK_eq] at hp ⊢
    split at hp
    · exact ⟨_, hp, fun K' kp' hk => hk⟩
    · exact ⟨_, hp, fun K' kp' hk => hk⟩
    · obtain ⟨hp, dl⟩ := liveK_det hp; exact ⟨_, hp, fun K' kp' hk => dl _ hk⟩
    · exact ⟨_, hp, fun K' kp' hk => hk⟩
    · exact hp.elim
end
end Ab

namespace Ab
set_option linter.unusedVariables false
set_option linter.unusedSimpArgs false
open Go

abbrev Ent := Nat × Bool × List Nat

def AOper.reads (o : AOper) : List Nat := o.op.uses ++ (match o.guard with | some (t, _) => [t] | none => [])
def AOp.isBad : AOp → Bool
  | .bad => true
  | _ => false

def preMask (ms : List Nat) (pre : List Nat) : Nat := pre.foldl (fun m k => m ||| (2 ^ k ||| ms.getD k 0)) 0
def mkMasks : List AOper → List Nat → List Nat
  | [], acc => acc
  | o :: r, acc => mkMasks r (acc ++ [preMask acc o.pre])
def maskOk (L : List AOper) (ms : List Nat) : Bool := (List.range L.length).all fun j => match L[j]? with
  | some o => Nat.beq (ms.getD j 0) (preMask ms o.pre) && o.pre.all (fun k => Nat.blt k j)
  | none => false

def pwAll {α : Type} (R : α → α → Bool) : List α → Bool
  | [] => true
  | a :: r => r.all (R a) && pwAll R r

def memN (t : Nat) (l : List Nat) : Bool := l.any fun u => Nat.beq u t
theorem VP.cells {Im : Nat → Prop} {w : World} {v : SV} {x : Value} (h : VP Im w v x) {j : Nat} {u : SV} {y : Value} (hu : v.cells[j]? = some u) (hy : x.cells[j]? = some y) : VP Im w u y := by
  have one : ∀ {v : SV} {x : Value}, v.cells = [v] → x.cells = #[x] → VP Im w v x → v.cells[j]? = some u → x.cells[j]? = some y → VP Im w u y := by
    intro v x h1 h2 h hu hy
    rw [h1] at hu; rw [h2] at hy
    cases j with
    | zero => simp at hu hy; subst hu; subst hy; exact h
    | succ j => simp at hu
  cases h with
  | undef => cases j with
    | zero => simp only [SV.cells, List.getElem?_cons_zero, Option.some.injEq] at hu; subst hu; exact .undef _
    | succ j => simp [SV.cells] at hu
  | agg l cs hl h => exact h j u y hu hy
  | bool b => exact one rfl rfl (.bool b) hu hy
  | int k n => exact one rfl rfl (.int k n) hu hy
  | str s => exact one rfl rfl (.str s) hu hy
  | nilp => exact one rfl rfl .nilp hu hy
  | glob g => exact one rfl rfl (.glob g) hu hy
  | nils => exact one rfl rfl .nils hu hy
  | nilf => exact one rfl rfl .nilf hu hy
  | nili => exact one rfl rfl .nili hu hy
  | iface t v x h => exact one rfl rfl (.iface t v x h) hu hy
  | tup l cs hl h => exact one rfl rfl (.tup l cs hl h) hu hy
  | func fn a b a' b' ha hb h h' => exact one rfl rfl (.func fn a b a' b' ha hb h h') hu hy
  | lst0 sz get a cap => exact one rfl rfl (.lst0 sz get a cap) hu hy
  | lst sz n get b off cap C ty fz hb hw hn hcap hc h => exact one rfl rfl (.lst sz n get b off cap C ty fz hb hw hn hcap hc h) hu hy
  | ipt v sub b o C ty fz hb hw hn h => exact one rfl rfl (.ipt v sub b o C ty fz hb hw hn h) hu hy

/-- A new variable that hangs on nothing. -/
def isC (o : AOper) : Bool := match o with
  | ⟨some _, .box _ sz (.const v), none, _⟩ => Nat.beq v.cells.length sz && v.known
  | _ => false
def rOk (L : List AOper) (ms : List Nat) (a b : Ent) : Bool := match L[a.1]?, L[b.1]? with
  | some oa, some ob =>
    let an := Nat.testBit (ms.getD b.1 0) a.1
    !Nat.beq a.1 b.1 &&
    (match oa.dst with
      | some t => (match ob.dst with | some u => !Nat.beq t u | none => true) && (!memN t ob.reads || an)
      | none => true) &&
    (match ob.dst with
      | some t => !memN t oa.reads || (b.2.1 && an)
      | none => true) &&
    (!a.2.1 || (an || isC ob)) &&
    (a.2.1 || (!b.2.1 || (an || (Nat.beq oa.op.cls 0 || memN a.1 b.2.2))))
  | _, _ => false
def eOk (L : List AOper) (a : Ent) : Bool := match L[a.1]? with
  | some o => !o.op.isBad && (Nat.ble o.op.cls 1 || a.2.1) && (a.2.1 || (a.2.2.isEmpty && (match o.dst with | some t => !memN t o.reads | none => true))) &&
    a.2.2.all (fun i => match L[i]? with | some oi => Nat.ble oi.op.cls 1 | none => false)
  | none => false
/-- The order told is one of the region's, and whatever may change places with what acts is done again behind it. -/
def ordOk (L : List AOper) (ord : List Ent) : Bool :=
  maskOk L (mkMasks L []) && pwAll (rOk L (mkMasks L [])) ord && ord.all (eOk L) && (List.range L.length).all (fun i => ord.any fun a => Nat.beq a.1 i)

theorem preMask_bit (ms : List Nat) (i : Nat) : ∀ (pre : List Nat) (m : Nat), Nat.testBit (pre.foldl (fun m k => m ||| (2 ^ k ||| ms.getD k 0)) m) i = true → Nat.testBit m i = true ∨ ∃ k ∈ pre, i = k ∨ Nat.testBit (ms.getD k 0) i = true
  | [], m, h => .inl h
  | k :: r, m, h => by
    simp only [List.foldl_cons] at h
    rcases preMask_bit ms i r _ h with h1 | ⟨k', hk', h1⟩
    · rw [Nat.testBit_or, Nat.testBit_or, Bool.or_eq_true, Bool.or_eq_true, Nat.testBit_two_pow] at h1
      rcases h1 with h1 | h1 | h1
      · exact .inl h1
      · exact .inr ⟨k, by simp, .inl (by simpa [eq_comm] using h1)⟩
      · exact .inr ⟨k, by simp, .inr h1⟩
    · exact .inr ⟨k', by simp [hk'], h1⟩

theorem pwAll_pairwise {α : Type} {R : α → α → Bool} : ∀ {l : List α}, pwAll R l = true → l.Pairwise fun a b => R a b = true
  | [], _ => .nil
  | a :: r, h => by
    simp only [pwAll, Bool.and_eq_true] at h
    exact .cons (fun b hb => List.all_eq_true.1 h.1 b hb) (pwAll_pairwise h.2)

theorem memN_iff {t : Nat} {l : List Nat} : memN t l = true ↔ t ∈ l := by
  unfold memN
  rw [List.any_eq_true]
  constructor
  · rintro ⟨u, hu, h⟩
    rw [← Nat.eq_of_beq_eq_true h]; exact hu
  · intro h; exact ⟨t, h, by simp⟩

/-! Guards, told by the slots. -/
def EqE (e e' : Env) : Prop := ∀ t, Env.get e t = Env.get e' t
def wantA (e : Env) : Option (Nat × Bool) → Option Bool
  | none => some true
  | some (t, want) => match Env.get e t with
    | .bool x => some (x == want)
    | .tup _ => some false
    | _ => none
theorem guardK_inv {e : Env} {g : Option (Nat × Bool)} {run skip : Env → Prop} (hp : guardK e g run skip) :
    (wantA e g = some true ∧ ∃ e1, EqE e e1 ∧ run e1) ∨ (wantA e g = some false ∧ ∃ e1, EqE e e1 ∧ skip e1) := by
  cases g with
  | none => exact .inl ⟨rfl, e, fun _ => rfl, hp⟩
  | some gw =>
    obtain ⟨t, want⟩ := gw
    simp only [guardK, getK_eq] at hp
    unfold wantA
    have hput : ∀ x, Env.get e t = .bool x → EqE e (Env.put e t (.bool x)) := fun x hx u => by
      rw [get_put]
      by_cases hu : u = t
      · subst hu; rw [if_pos rfl, hx]
      · rw [if_neg hu]
    dsimp only
    split at hp
    · rename_i x hx
      rw [hx]
      cases x <;> cases want <;> simp only [putK_eq] at hp
      · exact .inl ⟨rfl, _, hput _ hx, hp⟩
      · exact .inr ⟨rfl, _, hput _ hx, hp⟩
      · exact .inr ⟨rfl, _, hput _ hx, hp⟩
      · exact .inl ⟨rfl, _, hput _ hx, hp⟩
    · rename_i l hx
      rw [hx]
      exact .inr ⟨rfl, e, fun _ => rfl, hp⟩
    · exact hp.elim

def Env.only (ts : List Nat) (e : Env) : Env := ts.map fun t => (t, Env.get e t)
theorem get_only (e : Env) : ∀ (ts : List Nat) (u : Nat), Env.get (Env.only ts e) u = if u ∈ ts then Env.get e u else .undef
  | [], u => by simp [Env.only, Env.get]
  | t :: ts, u => by
    unfold Env.only
    rw [List.map_cons]
    conv => lhs; unfold Env.get
    rcases beq_cases t u with ⟨h, h'⟩ | ⟨h, h'⟩ <;> rw [h]
    · subst h'; simp
    · simp only [cond_false]
      have := get_only e ts u
      unfold Env.only at this
      rw [this]
      simp [Ne.symm h']

theorem cOper_ok {P : Program} {n : Nat} {ops : Array Oper} {o : Oper} (hb : (cOper P n ops true o).op.isBad = false) :
    (cOper P n ops true o).dst = o.dst ∧ (cOper P n ops true o).op = cOp P o.op ∧ (∀ d, o.dst = some d → d < n) ∧ (cOper P n ops true o).pre = o.after.toList.filterMap (fun e => bif bindsAny e then some e.on else none) ∧
    (match o.guard with | none => (cOper P n ops true o).guard = none | some (j, want) => ∃ t, (ops[j]?).bind (·.dst) = some t ∧ t < n ∧ (cOper P n ops true o).guard = some (t, want)) := by
  unfold cOper at hb ⊢
  dsimp only at hb ⊢
  cases hd : dstOk n o
  · rw [hd] at hb; simp [AOp.isBad] at hb
  · have hlt : ∀ d, o.dst = some d → d < n := fun d hdd => by
      unfold dstOk at hd
      rw [hdd] at hd
      exact Nat.lt_of_succ_le (by simpa [Nat.blt] using hd)
    rw [hd] at hb
    simp only [cond_true] at hb ⊢
    cases hg : o.guard with
    | none => refine ⟨?_, ?_, hlt, ?_, ?_⟩ <;> first | rfl | trivial
    | some gw =>
      obtain ⟨j, want⟩ := gw
      rw [hg] at hb
      dsimp only at hb ⊢
      cases ht : (ops[j]?).bind (·.dst) with
      | none => rw [ht] at hb; simp [AOp.isBad] at hb
      | some t =>
        rw [ht] at hb
        dsimp only at hb ⊢
        cases hbb : Nat.blt t n
        · rw [hbb] at hb; simp [AOp.isBad] at hb
        · simp only [cond_true]
          refine ⟨?_, ?_, hlt, ?_, t, ?_, Nat.lt_of_succ_le (by simpa [Nat.blt] using hbb), ?_⟩ <;> first | rfl | trivial

theorem isC_inv {o : AOper} (h : isC o = true) : ∃ t ty sz v pre, o = ⟨some t, .box ty sz (.const v), none, pre⟩ ∧ v.cells.length = sz ∧ v ≠ .undef := by
  unfold isC at h
  split at h
  · rename_i t ty sz v pre
    simp only [Bool.and_eq_true] at h
    exact ⟨t, ty, sz, v, pre, rfl, Nat.eq_of_beq_eq_true h.1, fun e => by rw [e] at h; simp [SV.known] at h⟩
  · cases h

theorem ext_alloc {c : Cx} {h : Heap} {w : World} (cb : Obj) : Ext c h w c h (w.alloc cb) :=
  ⟨rfl, rfl, rfl, by rw [heap_size]; omega, fun b hb _ => heap_push w cb b hb, fun b hb => by simp only [World.shape?, heap_push w cb b hb], fun _ h => h, fun _ h => .inl h, Nat.le_refl _,
    fun _ o' _ h => ⟨o', h, Nat.le_refl _, rfl, fun _ => rfl⟩, fun _ o' h => .inr ⟨o', h, rfl⟩⟩
theorem rep_same {c : Cx} {h : Heap} {w w' : World} (hr : Rep c h w) (hx : Ext c h w c h w') (hb : ∀ i o, h.obj i = some o → w'.heap[c.β i]? = w.heap[c.β i]?) : Rep c h w' :=
  ⟨hr.lt, fun i o ho => (hr.obj i o ho).mono hr hx (hb i o ho), hr.inj, hr.apart, fun b h => Nat.lt_of_lt_of_le (hr.im b h) hx.size, hr.globx hx⟩

/-- What such an operation does. -/
theorem cbox_run {P : Program} {w : World} {a : Act} {o : Oper} {ty : TypeId} {sz : Nat} {v : SV} (hop : cOp P o.op = .box ty sz (.const v)) :
    ∃ x, (execOp a.eval o).run P w = .ok (.value (.pointer (some ⟨w.heap.size, 0, none⟩))) (w.alloc (.cells x.cells ty)) ∧ ∀ Im w', VP Im w' v x := by
  cases ho : o.op with
  | alloc t =>
    rw [ho] at hop
    simp only [cOp] at hop
    split at hop
    · rename_i i hi
      split at hop
      · rename_i z hz
        cases hR : rowT P t <;> rw [hR] at hop <;> cases hop
        exact ⟨z, by simp [execOp, ho, Instr.alloc, newVar, newRow, zero_run hi hz], fun Im w' => ofVal_vp 4 z⟩
      · cases hop
    · cases hop
  | box t x =>
    rw [ho] at hop
    simp only [cOp] at hop
    split at hop
    · rename_i i hi
      cases hR : rowT P t <;> rw [hR] at hop
      rotate_left
      · cases hop
      injection hop with h0 h1 h2
      subst h0
      refine ⟨a.eval x, by simp [execOp, ho, Instr.box, newVar, newRow], fun Im w' => ?_⟩
      cases x with
      | tmp t => cases h2
      | const y => cases h2; exact ofVal_vp 4 y
      | global g => cases h2; exact .glob g
      | func f =>
        cases h2
        exact .func _ _ _ _ _ rfl rfl (fun i v x h => by simp at h) fun i v x h => by simp at h
    · cases hop
  | _ =>
    exfalso
    rw [ho] at hop
    simp only [cOp] at hop
    repeat' split at hop
    all_goals first | (cases hop; done) | skip
    all_goals try simp only [cond_eq_ite] at hop
    all_goals repeat' split at hop
    all_goals first | exact AOp.noConfusion hop | (rename_i heq _ _; cases heq; done) | (simp_all; done)

/-- One operation, the slots that it reads being known, and no other. -/
theorem exec_op {P : Program} {Γ : CallR} (hΓ : Γ.Ok P) {n : Nat} {ops : Array Oper} {Q : Exit → Act → World → Prop} {i : Nat} {o : Oper} (hi : ops[i]? = some o) (hb : (cOper P n ops true o).op.isBad = false) {c : Cx} {h : Heap} {w : World} {e : Env} {a : Act} {K : Act → World → Prop}
    (hr : Rep c h w) (hT : ∀ t ∈ (cOper P n ops true o).reads, VR c h w (Env.get e t) (a.tmps.getD t undef)) (hn : a.tmps.size = n) {b : Bool} (hw : wantA e (cOper P n ops true o).guard = some b) {k kp : SV → Heap → Prop}
    (hp : b = true → aop P Γ (cOper P n ops true o).op e h k kp)
    (hk : b = true → ∀ v x h' c' w', k v h' → Rep c' h' w' → Ext c h w c' h' w' → VR c' h' w' v x → K (a.put o.dst x) w')
    (hkp : b = true → ∀ v x h' c' w', kp v h' → Rep c' h' w' → Ext c h w c' h' w' → VR c' h' w' v x → Q (.panic [{ v := x, recovered := false }]) a w')
    (hskip : b = false → K (a.put o.dst undef) w) : wpOp P ops Q i K a w := by
  obtain ⟨hdst, hop, hlt, hpre, hg⟩ := cOper_ok hb
  have hwant : Region.wanted o (yielded ops a.tmps) = b := by
    cases hgo : o.guard with
    | none =>
      rw [hgo] at hg
      dsimp only at hg
      rw [hg] at hw
      simp only [wantA, Option.some.injEq] at hw
      simp [Region.wanted, hgo, ← hw]
    | some gw =>
      obtain ⟨j, want⟩ := gw
      rw [hgo] at hg
      obtain ⟨t, ht, htn, hg⟩ := hg
      have hv := hT t (by simp [AOper.reads, hg])
      rw [hg] at hw
      have hget : a.tmps[t]? = some (a.tmps.getD t undef) := by
        rw [Array.getD_eq_getD_getElem?]
        have : t < a.tmps.size := by rw [hn]; exact htn
        simp [this]
      unfold wantA at hw
      dsimp only at hw
      split at hw
      · rename_i x hx
        rw [hx] at hv
        simp only [Option.some.injEq] at hw
        have hy : yielded ops a.tmps j = some x := by
          unfold yielded
          rw [ht, Option.bind_some, hget, hv.bool_inv]
        simp [Region.wanted, hgo, hy, ← hw]
      · rename_i l hx
        rw [hx] at hv
        simp only [Option.some.injEq] at hw
        obtain ⟨cs, hcs, _⟩ := hv.tup_inv
        have hy : yielded ops a.tmps j = none := by
          unfold yielded
          rw [ht, Option.bind_some, hget, hcs]
        simp [Region.wanted, hgo, hy, ← hw]
      · cases hw
  have her : ER c h w (Env.only (cOper P n ops true o).reads e) a.tmps := fun t => by
    rw [get_only]
    split
    · exact hT t ‹_›
    · exact .undef
  unfold wpOp
  rw [hi]
  dsimp only
  cases b with
  | true =>
    rw [if_pos hwant]
    have hp' := hp rfl
    rw [aop_congr (e' := Env.only (cOper P n ops true o).reads e) (fun t ht => by rw [get_only, if_pos (by simp [AOper.reads, ht])]), hop] at hp'
    exact .inl (op_wp hΓ hr her hp' (hk rfl) (hkp rfl))
  | false =>
    rw [if_neg (by rw [hwant]; decide)]
    exact hskip rfl
end Ab
namespace Ab
set_option linter.unusedVariables false
set_option linter.unusedSimpArgs false
open Go

def PredV (P : Program) (Γ : CallR) (o : AOper) (e : Env) (h : Heap) : Prop := ∃ v, (∀ t, o.dst = some t → Env.get e t = v) ∧
  ((wantA e o.guard = some true ∧ ∀ K' kp' : SV → Heap → Prop, K' v h → aop P Γ o.op e h K' kp') ∨ (wantA e o.guard = some false ∧ v = .tup []))

theorem wantA_congr {e e' : Env} {o : AOper} (hE : ∀ t ∈ o.reads, Env.get e t = Env.get e' t) : wantA e o.guard = wantA e' o.guard := by
  unfold wantA
  cases hg : o.guard with
  | none => rfl
  | some gw =>
    obtain ⟨t, want⟩ := gw
    dsimp only
    rw [hE t (by simp [AOper.reads, hg])]
theorem aopR_congr {P : Program} {Γ : CallR} {e e' : Env} {h : Heap} {o : AOper} {K kp : SV → Heap → Prop} (hE : ∀ t ∈ o.reads, Env.get e t = Env.get e' t) : aop P Γ o.op e h K kp = aop P Γ o.op e' h K kp :=
  aop_congr fun t ht => hE t (by simp [AOper.reads, ht])
theorem PredV.congr {P : Program} {Γ : CallR} {e e' : Env} {h : Heap} {o : AOper} (hE : ∀ t ∈ o.reads, Env.get e t = Env.get e' t) (hd : ∀ t, o.dst = some t → Env.get e t = Env.get e' t) (hp : PredV P Γ o e h) : PredV P Γ o e' h := by
  obtain ⟨v, h1, h2⟩ := hp
  refine ⟨v, fun t ht => by rw [← hd t ht]; exact h1 t ht, ?_⟩
  rw [← wantA_congr hE]
  rcases h2 with ⟨h2, h3⟩ | h2
  · exact .inl ⟨h2, fun K' kp' hk => by rw [← aopR_congr hE]; exact h3 K' kp' hk⟩
  · exact .inr h2
theorem PredV.heap {P : Program} {Γ : CallR} {e : Env} {h h' : Heap} {o : AOper} (hc : o.op.cls = 0) (hp : PredV P Γ o e h) : PredV P Γ o e h' := by
  obtain ⟨v, h1, h2⟩ := hp
  refine ⟨v, h1, ?_⟩
  rcases h2 with ⟨h2, h3⟩ | h2
  · refine .inl ⟨h2, fun K' kp' hk => ?_⟩
    obtain ⟨v', hv', hd⟩ := aop_det0 (k := fun u _ => u = v) hc (h3 (fun u _ => u = v) (fun _ _ => False) rfl)
    subst hv'
    exact hd h' K' kp' hk
  · exact .inr h2

theorem putE_get (e : Env) (d : Option Nat) (v : SV) (t : Nat) : (d = some t → Env.get (putE e d v) t = v) ∧ (d ≠ some t → Env.get (putE e d v) t = Env.get e t) := by
  cases d with
  | none => exact ⟨(fun h => by cases h), fun _ => rfl⟩
  | some u =>
    simp only [putE, get_put]
    refine ⟨fun h => ?_, fun h => ?_⟩
    · cases h; rw [if_pos rfl]
    · rw [if_neg (fun e => h (by rw [e]))]

theorem againK_inv {P : Program} {Γ : CallR} (hΓ : Γ.Ok P) {L : List AOper} {p : Prop} : ∀ {ag : List Nat} {e : Env} {h : Heap}, (∀ i ∈ ag, ∀ o, L[i]? = some o → o.op.cls ≤ 1) → againK P Γ L ag e h p →
    p ∧ ∀ i ∈ ag, ∀ o, L[i]? = some o → wantA e o.guard = some true → PredV P Γ o e h
  | [], e, h, _, hp => ⟨hp, fun i hi => by cases hi⟩
  | j :: r, e, h, hc, hp => by
    rw [againK_cons] at hp
    rw [getL_eq] at hp
    split at hp
    · exact hp.elim
    · rename_i o ho
      have hcr : ∀ i ∈ r, ∀ o, L[i]? = some o → o.op.cls ≤ 1 := fun i hi => hc i (by simp [hi])
      have fin : ∀ {e1 : Env}, EqE e e1 → (wantA e o.guard = some true → PredV P Γ o e h) → (p ∧ ∀ i ∈ r, ∀ o, L[i]? = some o → wantA e1 o.guard = some true → PredV P Γ o e1 h) →
          p ∧ ∀ i ∈ j :: r, ∀ o, L[i]? = some o → wantA e o.guard = some true → PredV P Γ o e h := by
        intro e1 hE hpo ⟨hpp, hr⟩
        refine ⟨hpp, fun i hi o' ho' hw => ?_⟩
        rcases List.mem_cons.1 hi with rfl | hi
        · rw [ho] at ho'; cases ho'; exact hpo hw
        · exact (hr i hi o' ho' (by rw [← wantA_congr (fun t _ => hE t)]; exact hw)).congr (fun t _ => (hE t).symm) (fun t _ => (hE t).symm)
      rcases guardK_inv hp with ⟨hw, e1, hE, hp⟩ | ⟨hw, e1, hE, hp⟩
      · obtain ⟨v, hv, hd⟩ := aop_det1 (hc j (by simp) o ho) hp
        have hpred : (∀ t, o.dst = some t → Env.get e t = v) → PredV P Γ o e h := fun hdst => ⟨v, hdst, .inl ⟨hw, fun K' kp' hk => by rw [aopR_congr (fun t _ => hE t)]; exact hd K' kp' hk⟩⟩
        split at hv
        · rename_i t hdst
          rw [getK_eq] at hv
          obtain ⟨hvt, hv⟩ := hΓ.same _ _ _ hv
          exact fin hE (fun _ => hpred fun t' ht' => by rw [hdst] at ht'; cases ht'; rw [hE, ← hvt]) (againK_inv hΓ hcr hv)
        · rename_i hdst
          exact fin hE (fun _ => hpred fun t' ht' => by rw [hdst] at ht'; cases ht') (againK_inv hΓ hcr hv)
      · exact fin hE (fun hw' => by rw [hw] at hw'; cases hw') (againK_inv hΓ hcr hp)

theorem pairwise_or {α : Type} {R : α → α → Prop} : ∀ {l : List α}, l.Pairwise R → ∀ a ∈ l, ∀ b ∈ l, a = b ∨ R a b ∨ R b a
  | [], _, a, ha, _, _ => by cases ha
  | x :: r, .cons hx hr, a, ha, b, hb => by
    rcases List.mem_cons.1 ha with rfl | ha' <;> rcases List.mem_cons.1 hb with rfl | hb'
    · exact .inl rfl
    · exact .inr (.inl (hx b hb'))
    · exact .inr (.inr (hx a ha'))
    · exact pairwise_or hr a ha' b hb'

/-- What the look at an order shows, in words. -/
structure OrdF (L : List AOper) (ms : List Nat) (ord : List Ent) : Prop where
  mask : ∀ (j : Nat) (o : AOper), L[j]? = some o → ms.getD j 0 = preMask ms o.pre ∧ ∀ k ∈ o.pre, k < j
  pw : ord.Pairwise fun a b => rOk L ms a b = true
  ent : ∀ b ∈ ord, eOk L b = true
  all : ∀ i, i < L.length → ∃ b ∈ ord, b.1 = i
theorem ordOk_spec {L : List AOper} {ord : List Ent} (h : ordOk L ord = true) : OrdF L (mkMasks L []) ord := by
  simp only [ordOk, Bool.and_eq_true] at h
  obtain ⟨⟨⟨h1, h2⟩, h3⟩, h4⟩ := h
  refine ⟨fun j o hj => ?_, pwAll_pairwise h2, fun b hb => List.all_eq_true.1 h3 b hb, fun i hi => ?_⟩
  · have hlt : j < L.length := by
      rcases Nat.lt_or_ge j L.length with h | h
      · exact h
      · rw [List.getElem?_eq_none h] at hj; cases hj
    have := List.all_eq_true.1 h1 j (List.mem_range.2 hlt)
    rw [hj] at this
    simp only [Bool.and_eq_true] at this
    refine ⟨Nat.eq_of_beq_eq_true this.1, fun k hk => ?_⟩
    have := List.all_eq_true.1 this.2 k hk
    exact Nat.lt_of_succ_le (by simpa [Nat.blt] using this)
  · have := List.all_eq_true.1 h4 i (List.mem_range.2 hi)
    obtain ⟨b, hb, he⟩ := List.any_eq_true.1 this
    exact ⟨b, hb, Nat.eq_of_beq_eq_true he⟩

structure ROk (L : List AOper) (ms : List Nat) (a b : Ent) (oa ob : AOper) : Prop where
  ne : a.1 ≠ b.1
  dst : ∀ t, oa.dst = some t → ob.dst ≠ some t
  ab : ∀ t, oa.dst = some t → t ∈ ob.reads → Nat.testBit (ms.getD b.1 0) a.1 = true
  ba : ∀ t, ob.dst = some t → t ∈ oa.reads → b.2.1 = true ∧ Nat.testBit (ms.getD b.1 0) a.1 = true
  st : a.2.1 = true → Nat.testBit (ms.getD b.1 0) a.1 = true ∨ isC ob = true
  rd : a.2.1 = false → b.2.1 = true → Nat.testBit (ms.getD b.1 0) a.1 = true ∨ oa.op.cls = 0 ∨ a.1 ∈ b.2.2
theorem rOk_spec {L : List AOper} {ms : List Nat} {a b : Ent} (h : rOk L ms a b = true) : ∃ oa ob, L[a.1]? = some oa ∧ L[b.1]? = some ob ∧ ROk L ms a b oa ob := by
  unfold rOk at h
  split at h
  · rename_i oa ob ha hb
    refine ⟨oa, ob, ha, hb, ?_⟩
    simp only [Bool.and_eq_true] at h
    obtain ⟨⟨⟨⟨h1, h2⟩, h3⟩, h4⟩, h5⟩ := h
    refine ⟨fun e => by rw [e] at h1; simp at h1, fun t ht => ?_, fun t ht hr => ?_, fun t ht hr => ?_, fun hs => ?_, fun hs hb => ?_⟩
    · rw [ht] at h2
      simp only [Bool.and_eq_true] at h2
      intro e
      rw [e] at h2
      simp at h2
    · rw [ht] at h2
      simp only [Bool.and_eq_true, Bool.or_eq_true, Bool.not_eq_true'] at h2
      rcases h2.2 with h2 | h2
      · rw [memN_iff.2 hr] at h2; cases h2
      · exact h2
    · rw [ht] at h3
      simp only [Bool.and_eq_true, Bool.or_eq_true, Bool.not_eq_true'] at h3
      rcases h3 with h3 | h3
      · rw [memN_iff.2 hr] at h3; cases h3
      · exact h3
    · rw [hs] at h4; simpa using h4
    · rw [hs, hb] at h5
      simp only [Bool.not_true, Bool.false_or, Bool.or_eq_true] at h5
      rcases h5 with h5 | h5 | h5
      · exact .inl h5
      · exact .inr (.inl (Nat.eq_of_beq_eq_true h5))
      · exact .inr (.inr (memN_iff.1 h5))
  · cases h

structure EOk (L : List AOper) (a : Ent) (o : AOper) : Prop where
  good : o.op.isBad = false
  cls : a.2.1 = false → o.op.cls ≤ 1
  again : a.2.1 = false → a.2.2 = []
  self : a.2.1 = false → ∀ t, o.dst = some t → t ∉ o.reads
  ag : ∀ i ∈ a.2.2, ∀ oi, L[i]? = some oi → oi.op.cls ≤ 1
theorem eOk_spec {L : List AOper} {a : Ent} (h : eOk L a = true) : ∃ o, L[a.1]? = some o ∧ EOk L a o := by
  unfold eOk at h
  split at h
  · rename_i o ho
    refine ⟨o, ho, ?_⟩
    simp only [Bool.and_eq_true, Bool.or_eq_true, Bool.not_eq_true'] at h
    obtain ⟨⟨⟨h1, h2⟩, h3⟩, h4⟩ := h
    refine ⟨h1, fun hs => ?_, fun hs => ?_, fun hs t ht hr => ?_, fun i hi oi hoi => ?_⟩
    · rcases h2 with h2 | h2
      · exact Nat.le_of_ble_eq_true h2
      · rw [hs] at h2; cases h2
    · rcases h3 with h3 | h3
      · rw [hs] at h3; cases h3
      · exact List.isEmpty_iff.1 h3.1
    · rcases h3 with h3 | h3
      · rw [hs] at h3; cases h3
      · have := h3.2
        rw [ht] at this
        simp only [Bool.not_eq_true'] at this
        rw [memN_iff.2 hr] at this; cases this
    · have := List.all_eq_true.1 h4 i hi
      rw [hoi] at this
      exact Nat.le_of_ble_eq_true this
  · cases h

section
variable {P : Program} {Γ : CallR} {n : Nat} {ops : Array Oper} {ord : List Ent} {ms : List Nat} {k : Env → Heap → Prop} {kp : SV → Env → Heap → Prop} {Q : Exit → Act → World → Prop} {c0 : Cx} {h0 : Heap} {w0 : World} {ds : List Deferred}

abbrev LL (P : Program) (n : Nat) (ops : Array Oper) : List AOper := ops.toList.map (cOper P n ops true)

/-- A new variable that was made ahead of its turn: its block has no name yet. -/
structure PendAt (P : Program) (n : Nat) (ops : Array Oper) (w0 : World) (pb : Nat → Nat) (c : Cx) (h : Heap) (w : World) (a : Act) (i : Nat) : Prop where
  ex : ∃ t sz v pre C ty, (LL P n ops)[i]? = some ⟨some t, .box ty sz (.const v), none, pre⟩ ∧ v.cells.length = sz ∧ v ≠ .undef ∧ a.tmps.getD t undef = .pointer (some ⟨pb i, 0, none⟩) ∧
    w.heap[pb i]? = some (.cells C ty (0, 0)) ∧ C.size = sz ∧ ∀ (j : Nat) (u : SV) (x : Value), v.cells[j]? = some u → C[j]? = some x → ∀ Im w', VP Im w' u x
  ge : w0.heap.size ≤ pb i
  lt : pb i < w.heap.size
  noname : ∀ j o, h.obj j = some o → c.β j ≠ pb i
  noim : ¬ c.Im (pb i)
abbrev unturned (done : List Ent) (i : Nat) : Prop := ∀ b ∈ done, b.1 ≠ i

/-- In the midst of a region: what has run ('listed'), how far the one order has been gone through ('done'). -/
structure DInv (P : Program) (Γ : CallR) (n : Nat) (ops : Array Oper) (ord : List Ent) (k : Env → Heap → Prop) (kp : SV → Env → Heap → Prop) (c0 : Cx) (h0 : Heap) (w0 : World) (ds : List Deferred)
    (done rest : List Ent) (listed : Array Bool) (pb : Nat → Nat) (c : Cx) (h : Heap) (w : World) (e : Env) (a : Act) : Prop where
  split : ord = done ++ rest
  rep : Rep c h w
  ext : Ext c0 h0 w0 c h w
  size : a.tmps.size = n
  defers : a.defers = ds
  lsize : listed.size = ops.size
  cont : aopsD P Γ (LL P n ops) rest e h k kp
  dc : ∀ i, listed.getD i false = true → (∃ b ∈ done, b.1 = i) ∨ PendAt P n ops w0 pb c h w a i
  pinj : ∀ i j, listed.getD i false = true → listed.getD j false = true → unturned done i → unturned done j → pb i = pb j → i = j
  sd : ∀ b ∈ done, b.2.1 = true → listed.getD b.1 false = true
  closed : ∀ i, listed.getD i false = true → ∀ o, (LL P n ops)[i]? = some o → ∀ j ∈ o.pre, listed.getD j false = true
  T : ∀ t, (∀ b ∈ done, listed.getD b.1 false = false → ∀ o, (LL P n ops)[b.1]? = some o → o.dst ≠ some t) → (∀ i, listed.getD i false = true → unturned done i → ∀ o, (LL P n ops)[i]? = some o → o.dst ≠ some t) → VR c h w (Env.get e t) (a.tmps.getD t undef)
  Pd : ∀ b ∈ done, listed.getD b.1 false = false → ∀ o, (LL P n ops)[b.1]? = some o → PredV P Γ o e h

theorem anc_listed (hF : OrdF (LL P n ops) ms ord) {listed : Array Bool} (hcl : ∀ i, listed.getD i false = true → ∀ o, (LL P n ops)[i]? = some o → ∀ j ∈ o.pre, listed.getD j false = true) :
    ∀ (m j : Nat) (o : AOper), j < m → (LL P n ops)[j]? = some o → (∀ i ∈ o.pre, listed.getD i false = true) → ∀ i, Nat.testBit (ms.getD j 0) i = true → listed.getD i false = true
  | 0, j, o, hj, _, _, _, _ => by omega
  | m+1, j, o, hj, ho, hpre, i, hb => by
    obtain ⟨h1, h2⟩ := hF.mask j o ho
    rw [h1] at hb
    rcases preMask_bit ms i o.pre 0 hb with hb | ⟨q, hq, hb⟩
    · simp at hb
    · rcases hb with rfl | hb
      · exact hpre _ hq
      · have hqj := h2 q hq
        have hjl : j < (LL P n ops).length := by
          rcases Nat.lt_or_ge j (LL P n ops).length with h | h
          · exact h
          · rw [List.getElem?_eq_none h] at ho; cases ho
        have hqo : (LL P n ops)[q]? = some (LL P n ops)[q] := List.getElem?_eq_getElem (by omega)
        exact anc_listed hF hcl m q _ (by omega) hqo (hcl q (hpre q hq) _ hqo) i hb

theorem isC_cls {o : AOper} (h : isC o = true) : o.op.cls = 2 := by
  obtain ⟨t, ty, sz, v, pre, rfl, _⟩ := isC_inv h
  rfl
theorem rest_unturned (hF : OrdF (LL P n ops) ms ord) {done rest : List Ent} (hs : ord = done ++ rest) {b : Ent} (hb : b ∈ rest) : unturned done b.1 := by
  intro b' hb' he
  have hpw := hF.pw
  rw [hs, List.pairwise_append] at hpw
  obtain ⟨oa, ob, _, _, hr⟩ := rOk_spec (hpw.2.2 b' hb' b hb)
  exact hr.ne he
theorem head_new (hF : OrdF (LL P n ops) ms ord) {done rest : List Ent} {listed : Array Bool} {pb : Nat → Nat} {c : Cx} {h : Heap} {w : World} {e : Env} {a : Act} (hd : DInv P Γ n ops ord k kp c0 h0 w0 ds done rest listed pb c h w e a) {b : Ent} (hb : b ∈ rest)
    {o : AOper} (ho : (LL P n ops)[b.1]? = some o) (hc : o.op.cls ≤ 1) : listed.getD b.1 false = false := by
  cases hl : listed.getD b.1 false with
  | false => rfl
  | true =>
    rcases hd.dc b.1 hl with ⟨b', hb', he⟩ | hp
    · exact absurd he (rest_unturned hF hd.split hb b' hb')
    · obtain ⟨t, sz, v, pre, C, ty, hLi, _⟩ := hp.ex
      rw [ho] at hLi; cases hLi
      simp [AOp.cls] at hc
theorem listed_anc (hF : OrdF (LL P n ops) ms ord) {listed : Array Bool} (hcl : ∀ i, listed.getD i false = true → ∀ o, (LL P n ops)[i]? = some o → ∀ j ∈ o.pre, listed.getD j false = true) {p : Nat} (hp : listed.getD p false = true) {o : AOper} (ho : (LL P n ops)[p]? = some o) :
    ∀ q, Nat.testBit (ms.getD p 0) q = true → listed.getD q false = true :=
  anc_listed hF hcl (p + 1) p o (Nat.lt_succ_self _) ho (hcl p hp o ho)
theorem PendAt.mono {pb : Nat → Nat} {c c' : Cx} {h h' : Heap} {w w' : World} {a a' : Act} {i : Nat} (hp : PendAt P n ops w0 pb c h w a i) (hx : Ext c h w c' h' w')
    (hs : ∀ o t, (LL P n ops)[i]? = some o → o.dst = some t → a'.tmps.getD t undef = a.tmps.getD t undef) : PendAt P n ops w0 pb c' h' w' a' i := by
  obtain ⟨⟨t, sz, v, pre, C, ty, hLi, hvl, hvu, htmp, hw, hCs, hcell⟩, hge, hlt, hnn, hni⟩ := hp
  refine ⟨⟨t, sz, v, pre, C, ty, hLi, hvl, hvu, by rw [hs _ t hLi rfl]; exact htmp, by rw [hx.frame _ hlt hnn]; exact hw, hCs, hcell⟩, hge, Nat.lt_of_lt_of_le hlt hx.size, fun j o' ho' he => ?_, fun hb => ?_⟩
  · rcases hx.new j o' ho' with h1 | ⟨o, ho, h1⟩
    · omega
    · exact hnn j o ho (h1 ▸ he)
  · rcases hx.im' _ hb with h1 | h1 | ⟨j, o, ho, h1⟩
    · exact hni h1
    · omega
    · exact hnn j o ho h1

theorem VR.name {c : Cx} {nn : Nat} {l : List (Nat × AObj)} {w : World} (ob : AObj) (B : Nat) {v : SV} {x : Value} (h : VR c ⟨nn, l⟩ w v x) : VR (c.push nn B) ⟨nn + 1, (nn, ob) :: l⟩ w v x := by
  induction h with
  | pure h => exact .pure h
  | ref i g idx sub x hx hi hg h =>
    have hi' : i < nn := hi
    refine .ref _ _ _ _ _ hx (Nat.lt_succ_of_lt hi') (fun o ho => ?_) fun o ho hgo => ?_
    · rw [obj_push, if_neg (by omega)] at ho; exact hg o ho
    · rw [obj_push, if_neg (by omega)] at ho
      rw [h o ho hgo]; simp [Cx.push]; omega
  | sl i g sz off len cap x hx hi hg h =>
    have hi' : i < nn := hi
    refine .sl _ _ _ _ _ _ _ hx (Nat.lt_succ_of_lt hi') (fun o ho => ?_) fun o ho hgo => ?_
    · rw [obj_push, if_neg (by omega)] at ho; exact hg o ho
    · rw [obj_push, if_neg (by omega)] at ho
      have hb : (c.push nn B).β i = c.β i := by simp [Cx.push]; omega
      rw [hb]
      exact h o ho hgo
  | iface t v x _ ih => exact .iface _ _ _ ih
  | agg l cs hl _ ih => exact .agg _ _ hl ih
  | tup l cs hl _ ih => exact .tup _ _ hl ih
  | func fn a b a' b' ha hb _ _ ih ih' => exact .func _ _ _ _ _ ha hb ih ih'

/-- One step of the one order, past an operation that does not act. -/
theorem advance1 (hF : OrdF (LL P n ops) ms ord) {done r : List Ent} {listed : Array Bool} {pb : Nat → Nat} {c : Cx} {h : Heap} {w : World} {e : Env} {a : Act} {j : Nat} {ag : List Nat}
    (hd : DInv P Γ n ops ord k kp c0 h0 w0 ds done ((j, false, ag) :: r) listed pb c h w e a) : ∃ e', DInv P Γ n ops ord k kp c0 h0 w0 ds (done ++ [(j, false, ag)]) r listed pb c h w e' a := by
  have hmem : (j, false, ag) ∈ ord := by rw [hd.split]; simp
  obtain ⟨o, ho, hE⟩ := eOk_spec (hF.ent _ hmem)
  have hag : ag = [] := hE.again rfl
  subst hag
  have hnew := head_new hF hd (b := (j, false, [])) (by simp) ho (hE.cls rfl)
  have hcont := hd.cont
  rw [aopsD_cons] at hcont
  rw [getL_eq] at hcont
  have ho' : (LL P n ops)[j]? = some o := ho
  rw [ho'] at hcont
  dsimp only at hcont
  have hpw := hF.pw
  rw [hd.split, List.pairwise_append] at hpw
  have hR : ∀ b ∈ done, ∃ ob, (LL P n ops)[b.1]? = some ob ∧ ROk (LL P n ops) ms b (j, false, []) ob o := fun b hb => by
    obtain ⟨oa, ob, h1, h2, h3⟩ := rOk_spec (hpw.2.2 b hb (j, false, []) (by simp))
    have h2' : (LL P n ops)[j]? = some ob := h2
    rw [ho'] at h2'; cases h2'
    exact ⟨oa, h1, h3⟩
  -- behind the step, whatever it came to
  have fin : ∀ (e1 : Env) (v : SV), EqE e e1 → ((wantA e o.guard = some true ∧ ∀ K' kp' : SV → Heap → Prop, K' v h → aop P Γ o.op e1 h K' kp') ∨ (wantA e o.guard = some false ∧ v = .tup [])) → aopsD P Γ (LL P n ops) r (putE e1 o.dst v) h k kp →
      ∃ e', DInv P Γ n ops ord k kp c0 h0 w0 ds (done ++ [(j, false, [])]) r listed pb c h w e' a := by
    intro e1 v hE1 hcase hc
    have hget : ∀ t, o.dst ≠ some t → Env.get (putE e1 o.dst v) t = Env.get e t := fun t ht => by rw [(putE_get e1 o.dst v t).2 ht, ← hE1]
    have hread : ∀ t ∈ o.reads, Env.get e t = Env.get (putE e1 o.dst v) t := fun t ht => (hget t fun hdst => hE.self rfl t hdst ht).symm
    refine ⟨_, by rw [hd.split]; simp, hd.rep, hd.ext, hd.size, hd.defers, hd.lsize, hc, fun i hi => ?_, fun i i' hi hi' hu hu' => hd.pinj i i' hi hi' (fun b hb => hu b (by simp [hb])) (fun b hb => hu' b (by simp [hb])), fun b hb hs => ?_, hd.closed, fun t ht htp => ?_, fun b hb hl ob hob => ?_⟩
    · rcases hd.dc i hi with ⟨b, hb, he⟩ | hp
      · exact .inl ⟨b, by simp [hb], he⟩
      · exact .inr hp
    · rcases List.mem_append.1 hb with hb | hb
      · exact hd.sd b hb hs
      · simp only [List.mem_singleton] at hb; subst hb; cases hs
    · have hne : o.dst ≠ some t := ht (j, false, []) (by simp) hnew o ho
      rw [hget t hne]
      refine hd.T t (fun b hb => ht b (by simp [hb])) fun i hi hu => htp i hi fun b hb => ?_
      rcases List.mem_append.1 hb with hb | hb
      · exact hu b hb
      · simp only [List.mem_singleton] at hb
        subst hb
        intro he
        have he' : j = i := he
        subst he'
        rw [hi] at hnew; cases hnew
    · rcases List.mem_append.1 hb with hb | hb
      · obtain ⟨ob', hob', hr⟩ := hR b hb
        rw [hob] at hob'; cases hob'
        refine (hd.Pd b hb hl ob hob).congr (fun t ht => (hget t fun hdst => ?_).symm) (fun t ht => (hget t fun hdst => hr.dst t ht hdst).symm)
        have := (hr.ba t hdst ht).1
        cases this
      · simp only [List.mem_singleton] at hb
        subst hb
        have hob' : (LL P n ops)[j]? = some ob := hob
        rw [ho'] at hob'; cases hob'
        refine ⟨v, fun t ht => (putE_get e1 o.dst v t).1 ht, ?_⟩
        rw [← wantA_congr hread]
        rcases hcase with ⟨h1, h2⟩ | h1
        · exact .inl ⟨h1, fun K' kp' hk => by rw [← aopR_congr hread, aopR_congr (fun t _ => hE1 t)]; exact h2 K' kp' hk⟩
        · exact .inr h1
  rcases guardK_inv hcont with ⟨hw, e1, hE1, hp⟩ | ⟨hw, e1, hE1, hp⟩
  · obtain ⟨v, hv, hdet⟩ := aop_det1 (hE.cls rfl) hp
    rw [putD_eq] at hv
    exact fin e1 v hE1 (.inl ⟨hw, hdet⟩) hv
  · rw [putD_eq] at hp
    exact fin e1 _ hE1 (.inr ⟨hw, rfl⟩) hp

/-- One step of the one order, past a new variable that was made ahead of its turn: its block gets its name. -/
theorem advance2 (hΓ : Γ.Ok P) (hF : OrdF (LL P n ops) ms ord) {done r : List Ent} {listed : Array Bool} {pb : Nat → Nat} {c : Cx} {h : Heap} {w : World} {e : Env} {a : Act} {j : Nat} {ag : List Nat} (hl : listed.getD j false = true)
    (hd : DInv P Γ n ops ord k kp c0 h0 w0 ds done ((j, true, ag) :: r) listed pb c h w e a) : ∃ c' h' e', DInv P Γ n ops ord k kp c0 h0 w0 ds (done ++ [(j, true, ag)]) r listed pb c' h' w e' a := by
  have hmem : (j, true, ag) ∈ ord := by rw [hd.split]; simp
  obtain ⟨o, ho, hE⟩ := eOk_spec (hF.ent _ hmem)
  have hun : unturned done j := rest_unturned hF hd.split (b := (j, true, ag)) (by simp)
  rcases hd.dc j hl with ⟨b, hb, he⟩ | hpe
  · exact absurd he (hun b hb)
  obtain ⟨⟨t, sz, v, pre, C, ty, hLi, hvl, hvu, htmp, hw, hCs, hcell⟩, hge, hlt, hnn, hni⟩ := hpe
  have ho' : (LL P n ops)[j]? = some o := ho
  rw [ho'] at hLi
  have hoe := Option.some.inj hLi
  have hcont := hd.cont
  rw [aopsD_cons] at hcont
  rw [getL_eq] at hcont
  rw [ho', hoe] at hcont
  dsimp only [guardK, aop, AOpd.evK] at hcont
  obtain ⟨_, hcont⟩ := cellsK_iff.1 hcont
  replace hcont := asr_iff.1 hcont
  obtain ⟨_, hcont⟩ := hcont
  obtain ⟨nn, l⟩ := h
  dsimp only at hcont
  rw [putD_eq] at hcont
  obtain ⟨hc, hag⟩ := againK_inv hΓ (fun q hq oi hoi => hE.ag q hq oi hoi) hcont
  have hdst : o.dst = some t := by rw [hoe]
  have hpw := hF.pw
  rw [hd.split, List.pairwise_append] at hpw
  have hR : ∀ b ∈ done, ∃ ob, (LL P n ops)[b.1]? = some ob ∧ ROk (LL P n ops) ms b (j, true, ag) ob o := fun b hb => by
    obtain ⟨oa, ob, h1, h2, h3⟩ := rOk_spec (hpw.2.2 b hb (j, true, ag) (by simp))
    have h2' : (LL P n ops)[j]? = some ob := h2
    rw [ho'] at h2'; cases h2'
    exact ⟨oa, h1, h3⟩
  have hanc := listed_anc hF hd.closed hl ho'
  have hvn : ∀ {v' : SV} {x : Value}, VR c ⟨nn, l⟩ w v' x → VR (c.push nn (pb j)) ⟨nn + 1, (nn, .vec 0 sz [v] ⟨false, some ty⟩) :: l⟩ w v' x := fun hv => hv.name _ _
  have hβ : ∀ i, i ≠ nn → (c.push nn (pb j)).β i = c.β i := fun i hi => by simp [Cx.push, hi]
  have hβn : (c.push nn (pb j)).β nn = pb j := by simp [Cx.push]
  have hor : ∀ b o', OR c ⟨nn, l⟩ w b o' → OR (c.push nn (pb j)) ⟨nn + 1, (nn, .vec 0 sz [v] ⟨false, some ty⟩) :: l⟩ w b o' := by
    intro b o' ho'
    cases ho' with
    | vec g sz' elems sk C ty fz hw hle heq hty hc hf hcell => exact .vec g sz' elems sk C ty fz hw hle heq hty hc hf fun i j e v x h1 h2 h3 => hvn (hcell i j e v x h1 h2 h3)
    | iter s pos hw => exact .iter s pos hw
  have hltn : ∀ i o', objL l i = some o' → i < nn := fun i o' ho' => hd.rep.lt i o' ho'
  have hrep : Rep (c.push nn (pb j)) ⟨nn + 1, (nn, .vec 0 sz [v] ⟨false, some ty⟩) :: l⟩ w := by
    refine ⟨fun i o' ho' => ?_, fun i o' ho' => ?_, fun i i' o' p' ho' hp' he => ?_, fun i o' ho' => ?_, hd.rep.im, hd.rep.glob⟩
    · rw [obj_push] at ho'
      by_cases hi : nn = i
      · subst hi; exact Nat.lt_succ_self _
      · rw [if_neg hi] at ho'; exact Nat.lt_succ_of_lt (hltn i o' ho')
    · rw [obj_push] at ho'
      by_cases hi : nn = i
      · subst hi
        rw [if_pos rfl] at ho'; cases ho'
        rw [hβn]
        refine .vec 0 sz [v] ⟨false, some ty⟩ C ty (0, 0) hw (by simp; omega) (fun _ => by simp; omega) (fun _ h => (Option.some.inj h).symm) (fun v' hv' => by simp only [List.mem_singleton] at hv'; subst hv'; exact hvl) (by simp) fun i j' e' u x he hu hx => ?_
        cases i with
        | zero =>
          simp at he; subst he
          exact .pure (hcell j' u x hu (by simpa using hx) _ _)
        | succ i => simp at he
      · rw [if_neg hi] at ho'
        rw [hβ i (fun e => hi e.symm)]
        exact hor _ _ (hd.rep.obj i o' ho')
    · rw [obj_push] at ho' hp'
      by_cases hi : nn = i
      · by_cases hi' : nn = i'
        · omega
        · rw [if_neg hi'] at hp'
          rw [← hi, hβn, hβ i' (fun e => hi' e.symm)] at he
          exact absurd he.symm (hnn i' p' hp')
      · rw [if_neg hi] at ho'
        by_cases hi' : nn = i'
        · rw [← hi', hβn, hβ i (fun e => hi e.symm)] at he
          exact absurd he (hnn i o' ho')
        · rw [if_neg hi'] at hp'
          rw [hβ i (fun e => hi e.symm), hβ i' (fun e => hi' e.symm)] at he
          exact hd.rep.inj i i' o' p' ho' hp' he
    · rw [obj_push] at ho'
      by_cases hi : nn = i
      · rw [← hi, hβn]; exact hni
      · rw [if_neg hi] at ho'
        rw [hβ i (fun e => hi e.symm)]
        exact hd.rep.apart i o' ho'
  have hext : Ext c0 h0 w0 (c.push nn (pb j)) ⟨nn + 1, (nn, .vec 0 sz [v] ⟨false, some ty⟩) :: l⟩ w := by
    have hx := hd.ext
    refine ⟨hx.os, hx.tape, hx.output, hx.size, hx.frame, hx.shape, hx.im, hx.im', Nat.le_succ_of_le hx.nxt, fun i o' hi ho' => ?_, fun i o' ho' => ?_⟩
    · have hxn : h0.nxt ≤ nn := hx.nxt
      rw [obj_push, if_neg (by omega)] at ho'
      obtain ⟨o2, h1, h2, h3, h4⟩ := hx.old i o' hi ho'
      exact ⟨o2, h1, h2, h3, fun e => by rw [hβ i (by omega)]; exact h4 e⟩
    · rw [obj_push] at ho'
      by_cases hi : nn = i
      · left; rw [← hi, hβn]; exact hge
      · rw [if_neg hi] at ho'
        rw [hβ i (fun e => hi e.symm)]
        exact hx.new i o' ho'
  have hget : ∀ t', t ≠ t' → Env.get (putE e (some t) (.ref nn 0 0 0)) t' = Env.get e t' := fun t' ht => (putE_get e (some t) _ t').2 (fun e => ht (Option.some.inj e))
  refine ⟨_, _, _, by rw [hd.split]; simp, hrep, hext, hd.size, hd.defers, hd.lsize, hc, fun i hi => ?_, fun i i' hi hi' hu hu' => hd.pinj i i' hi hi' (fun b hb => hu b (by simp [hb])) (fun b hb => hu' b (by simp [hb])), fun b hb hs => ?_, hd.closed, fun t' ht htp => ?_, fun b hb hl' ob hob => ?_⟩
  · by_cases hex : ∃ b ∈ done, b.1 = i
    · obtain ⟨b, hb, he⟩ := hex
      exact .inl ⟨b, by simp [hb], he⟩
    · have hui : unturned done i := fun b hb he => hex ⟨b, hb, he⟩
      by_cases hij : i = j
      · exact .inl ⟨(j, true, ag), by simp, hij.symm⟩
      · rcases hd.dc i hi with h1 | hp
        · exact absurd h1 hex
        · refine .inr ⟨hp.ex, hp.ge, hp.lt, fun q o' ho' => ?_, hp.noim⟩
          rw [obj_push] at ho'
          by_cases hq : nn = q
          · rw [← hq, hβn]
            intro he
            exact hij (hd.pinj i j hi hl hui hun he.symm)
          · rw [if_neg hq] at ho'
            rw [hβ q (fun e => hq e.symm)]
            exact hp.noname q o' ho'
  · rcases List.mem_append.1 hb with hb | hb
    · exact hd.sd b hb hs
    · simp only [List.mem_singleton] at hb; subst hb; exact hl
  · by_cases htt : t = t'
    · subst htt
      rw [(putE_get e (some t) (.ref nn 0 0 0) t).1 rfl, htmp]
      exact .ref _ _ _ _ _ ⟨_, rfl⟩ (Nat.lt_succ_self _) (fun _ _ => Nat.zero_le _) fun o' ho' _ => by simp [Cx.push]
    · rw [hget t' htt]
      refine hvn (hd.T t' (fun b hb => ht b (by simp [hb])) fun i hi hu o2 ho2 => ?_)
      by_cases hij : i = j
      · rw [hij, ho'] at ho2
        cases ho2
        rw [hdst]
        exact fun e => htt (Option.some.inj e)
      · refine htp i hi (fun b hb => ?_) o2 ho2
        rcases List.mem_append.1 hb with hb | hb
        · exact hu b hb
        · simp only [List.mem_singleton] at hb; subst hb
          exact fun e => hij e.symm
  · rcases List.mem_append.1 hb with h | h
    · obtain ⟨ob', hob', hr⟩ := hR b h
      rw [hob] at hob'; cases hob'
      have hold : PredV P Γ ob (putE e (some t) (.ref nn 0 0 0)) ⟨nn, l⟩ := (hd.Pd b h hl' ob hob).congr (fun t' ht => (hget t' fun hdd => by
          have := (hr.ba t (by rw [hdst]) (hdd ▸ ht)).2
          rw [hanc _ this] at hl'; cases hl').symm) fun t' ht => (hget t' fun hdd => hr.dst t' ht (by rw [hdst, hdd])).symm
      have hns : b.2.1 = false := by
        cases hs : b.2.1 with
        | false => rfl
        | true => rw [hd.sd b h hs] at hl'; cases hl'
      rcases hr.rd hns rfl with h1 | h1 | h1
      · rw [hanc _ h1] at hl'; cases hl'
      · exact hold.heap h1
      · obtain ⟨v', q1, q2⟩ := hold
        rcases q2 with ⟨q2, _⟩ | q2
        · exact hag _ h1 ob hob q2
        · exact ⟨v', q1, .inr q2⟩
    · simp only [List.mem_singleton] at h; subst h
      have hl2 : listed.getD j false = false := hl'
      rw [hl] at hl2; cases hl2

theorem advance (hΓ : Γ.Ok P) (hF : OrdF (LL P n ops) ms ord) : ∀ (rest done : List Ent) {listed : Array Bool} {pb : Nat → Nat} {c : Cx} {h : Heap} {w : World} {e : Env} {a : Act}, DInv P Γ n ops ord k kp c0 h0 w0 ds done rest listed pb c h w e a →
    ∃ done' rest' c' h' e', DInv P Γ n ops ord k kp c0 h0 w0 ds done' rest' listed pb c' h' w e' a ∧ (rest' = [] ∨ ∃ j ag r, rest' = (j, true, ag) :: r ∧ listed.getD j false = false)
  | [], done, listed, pb, c, h, w, e, a, hd => ⟨done, [], c, h, e, hd, .inl rfl⟩
  | (j, true, ag) :: r, done, listed, pb, c, h, w, e, a, hd => by
    cases hl : listed.getD j false with
    | false => exact ⟨done, _, c, h, e, hd, .inr ⟨j, ag, r, rfl, hl⟩⟩
    | true =>
      obtain ⟨c', h', e', hd'⟩ := advance2 hΓ hF hl hd
      exact advance hΓ hF r _ hd'
  | (j, false, ag) :: r, done, listed, pb, c, h, w, e, a, hd => by
    obtain ⟨e', hd'⟩ := advance1 hF hd
    exact advance hΓ hF r _ hd'
end

theorem listed_set (listed : Array Bool) (i j : Nat) (hi : i < listed.size) : (listed.setIfInBounds i true).getD j false = if j = i then true else listed.getD j false := by
  rw [Array.getD_eq_getD_getElem?, Array.getElem?_setIfInBounds]
  by_cases h : j = i
  · subst h; simp [hi]
  · rw [if_neg (fun e => h e.symm), if_neg h, Array.getD_eq_getD_getElem?]

def unl (n : Nat) (listed : Array Bool) : Nat := ((List.range n).filter fun i => !listed.getD i false).length
theorem unl_zero {n : Nat} {listed : Array Bool} (h : unl n listed = 0) : ∀ i, i < n → listed.getD i false = true := by
  intro i hi
  unfold unl at h
  have := List.eq_nil_of_length_eq_zero h
  rw [List.filter_eq_nil_iff] at this
  have := this i (List.mem_range.2 hi)
  simpa using this
theorem filter_lt {α : Type} (p q : α → Bool) : ∀ (l : List α), (∀ x ∈ l, q x = true → p x = true) → (∃ x ∈ l, p x = true ∧ q x = false) → (l.filter q).length < (l.filter p).length
  | [], _, ⟨x, hx, _⟩ => by cases hx
  | y :: r, hpq, ⟨x, hx, hpx, hqx⟩ => by
    have hle : ∀ l : List α, (∀ x ∈ l, q x = true → p x = true) → (l.filter q).length ≤ (l.filter p).length := by
      intro l
      induction l with
      | nil => intro _; simp
      | cons z l ih =>
        intro hl
        have := ih fun x hx => hl x (by simp [hx])
        simp only [List.filter_cons]
        cases hq : q z
        · cases hp : p z <;> simp <;> omega
        · rw [hl z (by simp) hq]; simp; omega
    rcases List.mem_cons.1 hx with rfl | hx'
    · simp only [List.filter_cons, hpx, hqx]
      have := hle r fun x hx => hpq x (by simp [hx])
      simp; omega
    · have ih := filter_lt p q r (fun x hx => hpq x (by simp [hx])) ⟨x, hx', hpx, hqx⟩
      simp only [List.filter_cons]
      cases hq : q y
      · cases hp : p y <;> simp <;> omega
      · rw [hpq y (by simp) hq]; simp; omega
theorem unl_set {n : Nat} {listed : Array Bool} {i : Nat} (hi : i < n) (hs : i < listed.size) (hl : listed.getD i false = false) : unl n (listed.setIfInBounds i true) < unl n listed := by
  unfold unl
  refine filter_lt _ _ _ (fun j _ hj => ?_) ⟨i, List.mem_range.2 hi, by simpa using hl, by rw [listed_set _ _ _ hs]; simp⟩
  rw [listed_set _ _ _ hs] at hj
  by_cases h : j = i
  · subst h; simp at hj
  · rw [if_neg h] at hj; exact hj

theorem LL_get {P : Program} {n : Nat} {ops : Array Oper} {i : Nat} (hi : i < ops.size) : (LL P n ops)[i]? = some (cOper P n ops true ops[i]) := by
  simp [LL, hi]
theorem LL_len {P : Program} {n : Nat} {ops : Array Oper} : (LL P n ops).length = ops.size := by simp [LL]

theorem binds_eq (e : Edge) : bindsAny e = Region.binds .any e := by
  unfold bindsAny Region.binds
  cases e.ground <;> rfl

section
variable {P : Program} {Γ : CallR} {n : Nat} {ops : Array Oper} {ord : List Ent} {ms : List Nat} {k : Env → Heap → Prop} {kp : SV → Env → Heap → Prop} {Q : Exit → Act → World → Prop} {c0 : Cx} {h0 : Heap} {w0 : World} {ds : List Deferred}

theorem ready_spec {listed : Array Bool} {i : Nat} (hs : listed.size = ops.size) (hi : i ∈ Region.ready .any ops listed) : ∃ hlt : i < ops.size, listed.getD i false = false ∧ ∀ e ∈ (ops[i]).after.toList, bindsAny e = true → listed.getD e.on false = true := by
  unfold Region.ready at hi
  obtain ⟨h1, h2⟩ := List.mem_filter.1 hi
  have hlt := List.mem_range.1 h1
  refine ⟨hlt, ?_⟩
  simp only [Bool.and_eq_true, Bool.not_eq_true'] at h2
  have hlt' : i < listed.size := by omega
  have e1 : ∀ d, listed.getD i d = listed[i] := fun d => by simp [Array.getD_eq_getD_getElem?, hlt']
  refine ⟨by rw [e1]; rw [e1] at h2; exact h2.1, fun e he hb => ?_⟩
  have h3 := h2.2
  rw [Array.getElem?_eq_getElem hlt] at h3
  simp only [Option.map_some, Option.getD_some] at h3
  rw [← Array.all_toList] at h3
  have := List.all_eq_true.1 h3 e he
  rw [← binds_eq, hb] at this
  simpa using this

theorem all_listed (hF : OrdF (LL P n ops) ms ord) {listed : Array Bool} (hs : listed.size = ops.size) (hr : Region.ready .any ops listed = []) : ∀ (m i : Nat), i < m → i < ops.size → listed.getD i false = true
  | 0, i, h, _ => by omega
  | m+1, i, h, hi => by
    cases hl : listed.getD i false with
    | true => rfl
    | false =>
      exfalso
      have hmem : i ∈ Region.ready .any ops listed := by
        unfold Region.ready
        refine List.mem_filter.2 ⟨List.mem_range.2 hi, ?_⟩
        have hlt' : i < listed.size := by omega
        have e1 : ∀ d, listed.getD i d = listed[i] := fun d => by simp [Array.getD_eq_getD_getElem?, hlt']
        rw [e1] at hl
        simp only [e1, hl, Bool.not_false, Bool.true_and]
        rw [Array.getElem?_eq_getElem hi]
        simp only [Option.map_some, Option.getD_some]
        rw [← Array.all_toList]
        refine List.all_eq_true.2 fun e he => ?_
        cases hb : Region.binds .any e with
        | false => rfl
        | true =>
          obtain ⟨b, hbm, hbe⟩ := hF.all i (by rw [LL_len]; exact hi)
          obtain ⟨o, ho, hE⟩ := eOk_spec (hF.ent b hbm)
          rw [hbe, LL_get hi] at ho
          cases ho
          obtain ⟨_, _, _, hpre, _⟩ := cOper_ok hE.good
          have hon : e.on ∈ (cOper P n ops true ops[i]).pre := by
            rw [hpre]
            exact List.mem_filterMap.2 ⟨e, he, by rw [binds_eq, hb]; rfl⟩
          have hlt := (hF.mask i _ (LL_get hi)).2 _ hon
          have := all_listed hF hs hr m e.on (by omega) (by omega)
          simpa using this
      rw [hr] at hmem
      cases hmem

theorem dmain (hΓ : Γ.Ok P) (hF : OrdF (LL P n ops) ms ord)
    (hK : ∀ e h c a w, k e h → Rep c h w → Ext c0 h0 w0 c h w → ER c h w e a.tmps → a.tmps.size = n → a.defers = ds → Q .normal a w)
    (hKP : ∀ v x h c a w, kp v [] h → Rep c h w → Ext c0 h0 w0 c h w → a.tmps.size = n → a.defers = ds → VR c h w v x → Q (.panic [{ v := x, recovered := false }]) a w) (hr0 : Rep c0 h0 w0) :
    ∀ (fuel : Nat) (done rest : List Ent) (listed : Array Bool) (pb : Nat → Nat) (c : Cx) (h : Heap) (w : World) (e : Env) (a : Act), unl ops.size listed ≤ fuel → DInv P Γ n ops ord k kp c0 h0 w0 ds done rest listed pb c h w e a → wpAny P .any ops Q fuel listed a w := by
  -- all have run: the end
  have hend : ∀ (done rest : List Ent) (listed : Array Bool) (pb : Nat → Nat) (c : Cx) (h : Heap) (w : World) (e : Env) (a : Act), (∀ i, i < ops.size → listed.getD i false = true) → DInv P Γ n ops ord k kp c0 h0 w0 ds done rest listed pb c h w e a → Q .normal a w := by
    intro done rest listed pb c h w e a hall hd
    obtain ⟨done', rest', c', h', e', hd', hor⟩ := advance hΓ hF rest done hd
    have hlt : ∀ b ∈ ord, b.1 < ops.size := fun b hb => by
      obtain ⟨o, ho, _⟩ := eOk_spec (hF.ent b hb)
      rcases Nat.lt_or_ge b.1 (LL P n ops).length with h | h
      · rw [LL_len] at h; exact h
      · rw [List.getElem?_eq_none h] at ho; cases ho
    have hnil : rest' = [] := by
      rcases hor with h | ⟨j, ag, r, rfl, h1⟩
      · exact h
      · have h2 := hall j (hlt (j, true, ag) (by rw [hd'.split]; simp))
        rw [h2] at h1; cases h1
    subst hnil
    have hc := hd'.cont
    exact hK e' h' c' a w hc hd'.rep hd'.ext (fun t => hd'.T t (fun b hb hl => by
      have := hall b.1 (hlt b (by rw [hd'.split]; simp [hb]))
      rw [this] at hl; cases hl) fun i hi hu o ho => by
      have hil : i < (LL P n ops).length := by
        rcases Nat.lt_or_ge i (LL P n ops).length with h | h
        · exact h
        · rw [List.getElem?_eq_none h] at ho; cases ho
      obtain ⟨b, hb, he⟩ := hF.all i hil
      rw [hd'.split, List.append_nil] at hb
      exact absurd he (hu b hb)) hd'.size hd'.defers
  intro fuel
  induction fuel with
  | zero =>
    intro done rest listed pb c h w e a hu hd
    have hall := unl_zero (Nat.le_zero.1 hu)
    refine ⟨List.eq_nil_iff_forall_not_mem.2 fun i hi => ?_, hend done rest listed pb c h w e a hall hd⟩
    obtain ⟨hlt, hl, _⟩ := ready_spec hd.lsize hi
    rw [hall i hlt] at hl; cases hl
  | succ fuel ih =>
    intro done rest listed pb c h w e a hu hd
    refine ⟨fun hr => hend done rest listed pb c h w e a (fun i hi => all_listed hF hd.lsize hr (i + 1) i (Nat.lt_succ_self _) hi) hd, fun i hi => ?_⟩
    obtain ⟨hlt, hl, hpre⟩ := ready_spec hd.lsize hi
    obtain ⟨done', rest', c1, h1, e', hd', hor⟩ := advance hΓ hF rest done hd
    clear hd
    clear c h
    revert hd'
    generalize hc1 : c1 = c
    generalize hh1 : h1 = h
    intro hd'
    clear hc1 hh1 c1 h1
    have hLi := LL_get (P := P) (n := n) hlt
    obtain ⟨b, hbm, hbe⟩ := hF.all i (by rw [LL_len]; exact hlt)
    obtain ⟨o, ho, hE⟩ := eOk_spec (hF.ent b hbm)
    rw [hbe, hLi] at ho
    cases ho
    obtain ⟨hdst, hop, hdlt, hpr, _⟩ := cOper_ok hE.good
    have hpreL : ∀ j ∈ (cOper P n ops true ops[i]).pre, listed.getD j false = true := fun j hj => by
      rw [hpr] at hj
      obtain ⟨ed, hed, hbb⟩ := List.mem_filterMap.1 hj
      cases hbd : bindsAny ed
      · rw [hbd] at hbb; cases hbb
      · rw [hbd] at hbb
        simp only [cond_true, Option.some.injEq] at hbb
        rw [← hbb]; exact hpre ed hed hbd
    have hanc : ∀ q, Nat.testBit (ms.getD i 0) q = true → listed.getD q false = true := anc_listed hF hd'.closed (i + 1) i _ (Nat.lt_succ_self _) hLi hpreL
    have hil : i < listed.size := by rw [hd'.lsize]; exact hlt
    have hu' : unl ops.size (listed.setIfInBounds i true) ≤ fuel := by
      have := unl_set hlt hil hl
      omega
    have hget := fun j => listed_set listed i j hil
    have hmono : ∀ j, listed.getD j false = true → (listed.setIfInBounds i true).getD j false = true := fun j hj => by rw [hget]; split <;> simp [hj]
    have hun : ∀ j, (listed.setIfInBounds i true).getD j false = false → listed.getD j false = false ∧ j ≠ i := fun j hj => by
      rw [hget] at hj
      by_cases h : j = i
      · rw [if_pos h] at hj; cases hj
      · rw [if_neg h] at hj; exact ⟨hj, h⟩
    have hclosed : ∀ j, (listed.setIfInBounds i true).getD j false = true → ∀ o, (LL P n ops)[j]? = some o → ∀ q ∈ o.pre, (listed.setIfInBounds i true).getD q false = true := by
      intro j hj o ho q hq
      rw [hget] at hj
      by_cases h : j = i
      · subst h; rw [hLi] at ho; cases ho; exact hmono q (hpreL q hq)
      · rw [if_neg h] at hj; exact hmono q (hd'.closed j hj o ho q hq)
    have hls : (listed.setIfInBounds i true).size = ops.size := by simp [hd'.lsize]
    have hput : ∀ x t, (a.put ops[i].dst x).tmps.getD t undef = if ops[i].dst = some t then x else a.tmps.getD t undef := by
      intro x t
      cases hdd : ops[i].dst with
      | none => simp [Act.put]
      | some d =>
        simp only [Act.put, Array.getD_eq_getD_getElem?, Array.getElem?_setIfInBounds, Option.some.injEq]
        by_cases h : d = t
        · subst h
          have hd1 : d < a.tmps.size := by rw [hd'.size]; exact hdlt d hdd
          simp [hd1]
        · simp [h]
    have hpwd := hF.pw
    rw [hd'.split, List.pairwise_append] at hpwd
    have hpendR : ∀ p, listed.getD p false = true → unturned done' p → ∀ o, (LL P n ops)[p]? = some o → ∃ bp, bp ∈ rest' ∧ bp.1 = p ∧ ∀ q, Nat.testBit (ms.getD p 0) q = true → listed.getD q false = true := by
      intro p hp hup o ho
      have hpl : p < (LL P n ops).length := by
        rcases Nat.lt_or_ge p (LL P n ops).length with h | h
        · exact h
        · rw [List.getElem?_eq_none h] at ho; cases ho
      obtain ⟨bp, hbp, hbe'⟩ := hF.all p hpl
      rw [hd'.split] at hbp
      rcases List.mem_append.1 hbp with h | h
      · exact absurd hbe' (hup bp h)
      · exact ⟨bp, h, hbe', listed_anc hF hd'.closed hp ho⟩
    by_cases hin : b ∈ done'
    · -- gone through already: what it reads is as it was told
      have hst : b.2.1 = false := by
        cases hs : b.2.1 with
        | false => rfl
        | true =>
          have := hd'.sd b hin hs
          rw [hbe, hl] at this; cases this
      obtain ⟨v, hv1, hv2⟩ := hd'.Pd b hin (by rw [hbe]; exact hl) _ (by rw [hbe]; exact hLi)
      have hT : ∀ t ∈ (cOper P n ops true ops[i]).reads, VR c h w (Env.get e' t) (a.tmps.getD t undef) := by
        intro t ht
        refine hd'.T t (fun b' hb' hl' o' ho' hdd => ?_) fun p hp hup op hop' hdd => by
          obtain ⟨bp, hbp, hbpe, hpa⟩ := hpendR p hp hup op hop'
          obtain ⟨oa, ob, h1, h2, hr⟩ := rOk_spec (hpwd.2.2 b hin bp hbp)
          rw [hbe, hLi] at h1; cases h1
          rw [hbpe, hop'] at h2; cases h2
          have := (hr.ba t hdd ht).2
          rw [hbpe, hbe] at this
          rw [hpa _ this] at hl; cases hl
        rcases pairwise_or hpwd.1 b' hb' b hin with rfl | hR | hR
        · rw [hbe, hLi] at ho'; cases ho'
          exact hE.self hst t hdd ht
        · obtain ⟨oa, ob, h1, h2, hr⟩ := rOk_spec hR
          rw [ho'] at h1; cases h1
          rw [hbe, hLi] at h2; cases h2
          have := hr.ab t hdd ht
          rw [hbe] at this
          rw [hanc _ this] at hl'; cases hl'
        · obtain ⟨oa, ob, h1, h2, hr⟩ := rOk_spec hR
          rw [ho'] at h2; cases h2
          rw [hbe, hLi] at h1; cases h1
          have := (hr.ba t hdd ht).1
          rw [hd'.sd b' hb' this] at hl'; cases hl'
      have hslot : ∀ p, listed.getD p false = true → unturned done' p → ∀ o t, (LL P n ops)[p]? = some o → o.dst = some t → ops[i].dst ≠ some t := by
        intro p hp hup o t ho hot hit
        obtain ⟨bp, hbp, hbpe, hpa⟩ := hpendR p hp hup o ho
        obtain ⟨oa, ob, h1, h2, hr⟩ := rOk_spec (hpwd.2.2 b hin bp hbp)
        rw [hbe, hLi] at h1; cases h1
        rw [hbpe, ho] at h2; cases h2
        exact hr.dst t (by rw [hdst]; exact hit) hot
      have hdc : ∀ (x : Value) (c' : Cx) (w' : World), Ext c h w c' h w' → ∀ j, (listed.setIfInBounds i true).getD j false = true → (∃ b ∈ done', b.1 = j) ∨ PendAt P n ops w0 pb c' h w' (a.put ops[i].dst x) j := fun x c' w' hx' j hj => by
        rw [hget] at hj
        by_cases h : j = i
        · exact .inl ⟨b, hin, by rw [hbe, h]⟩
        · rw [if_neg h] at hj
          by_cases hex : ∃ b ∈ done', b.1 = j
          · exact .inl hex
          · have huj : unturned done' j := fun b hb he => hex ⟨b, hb, he⟩
            refine .inr (((hd'.dc j hj).resolve_left hex).mono hx' fun o t ho hot => ?_)
            rw [hput, if_neg (hslot j hj huj o t ho hot)]
      have hpinj : ∀ p q, (listed.setIfInBounds i true).getD p false = true → (listed.setIfInBounds i true).getD q false = true → unturned done' p → unturned done' q → pb p = pb q → p = q := by
        intro p q hp hq hup huq he
        have hpi : p ≠ i := fun h => hup b hin (by rw [hbe, h])
        have hqi : q ≠ i := fun h => huq b hin (by rw [hbe, h])
        rw [hget, if_neg hpi] at hp
        rw [hget, if_neg hqi] at hq
        exact hd'.pinj p q hp hq hup huq he
      have fin : ∀ (x : Value) (c' : Cx) (w' : World), Rep c' h w' → Ext c h w c' h w' → (∀ t, ops[i].dst = some t → VR c' h w' (Env.get e' t) x) → wpAny P .any ops Q fuel (listed.setIfInBounds i true) (a.put ops[i].dst x) w' := by
        intro x c' w' hr' hx' hxv
        refine ih done' rest' _ pb c' h w' e' _ hu' ⟨hd'.split, hr', hd'.ext.trans hr0 hx', by rw [put_size]; exact hd'.size, by rw [put_defers]; exact hd'.defers, hls, hd'.cont, hdc x c' w' hx', hpinj, fun b' hb' hs => hmono _ (hd'.sd b' hb' hs), hclosed, fun t ht htp => ?_, fun b' hb' hl' o' ho' => hd'.Pd b' hb' (hun _ hl').1 o' ho'⟩
        rw [hput]
        by_cases hdt : ops[i].dst = some t
        · rw [if_pos hdt]; exact hxv t hdt
        · rw [if_neg hdt]
          refine (hd'.T t (fun b' hb' hl' o' ho' => ?_) fun p hp hup => htp p (hmono p hp) hup).mono hd'.rep hx'
          by_cases hbi : b'.1 = i
          · rw [hbi, hLi] at ho'; cases ho'
            rw [hdst]; exact hdt
          · exact ht b' hb' (by rw [hget, if_neg hbi]; exact hl') o' ho'
      rcases hv2 with ⟨hw, hv2⟩ | ⟨hw, rfl⟩
      · refine exec_op hΓ (b := true) (Array.getElem?_eq_getElem hlt) hE.good hd'.rep hT hd'.size hw (k := fun v' h' => v' = v ∧ h' = h) (kp := fun _ _ => False) (fun _ => hv2 _ _ ⟨rfl, rfl⟩) (fun _ v' x h' c' w' hk hr' hx' hvx => ?_) (fun _ v' x h' c' w' hk => hk.elim) (fun hf => by cases hf)
        obtain ⟨rfl, rfl⟩ := hk
        exact fin x c' w' hr' hx' fun t ht => by rw [hv1 t (by rw [hdst]; exact ht)]; exact hvx
      · refine exec_op hΓ (b := false) (Array.getElem?_eq_getElem hlt) hE.good hd'.rep hT hd'.size hw (k := fun _ _ => False) (kp := fun _ _ => False) (fun hf => by cases hf) (fun hf => by cases hf) (fun hf => by cases hf) (fun _ => ?_)
        exact fin _ c w hd'.rep .refl fun t ht => by rw [hv1 t (by rw [hdst]; exact ht)]; exact .pure (.tup _ _ rfl fun i v x hv => by simp at hv)
    · -- the next that acts
      have hbr : b ∈ rest' := by
        rw [hd'.split] at hbm
        rcases List.mem_append.1 hbm with h | h
        · exact absurd h hin
        · exact h
      rcases hor with rfl | ⟨j, ag, r, rfl, hlj⟩
      · cases hbr
      have hcase : b = (j, true, ag) ∨ isC (cOper P n ops true ops[i]) = true := by
        rcases List.mem_cons.1 hbr with h | h
        · exact .inl h
        · right
          obtain ⟨oa, ob, h1, h2, hr⟩ := rOk_spec ((List.pairwise_cons.1 hpwd.2.1).1 b h)
          rw [hbe, hLi] at h2; cases h2
          rcases hr.st rfl with h3 | h3
          · rw [hbe] at h3
            have h4 : listed.getD j false = true := hanc _ h3
            rw [h4] at hlj; cases hlj
          · exact h3
      have hui : unturned done' i := fun b' hb' he => by
        have := rest_unturned hF hd'.split hbr b' hb'
        rw [hbe] at this
        exact this he
      by_cases hbj : b = (j, true, ag)
      case neg =>
        -- a new variable, made ahead of its turn
        obtain ⟨t, ty, sz, v, pre, hoe, hvl, hvu⟩ := isC_inv (hcase.resolve_left hbj)
        have hopp : cOp P ops[i].op = .box ty sz (.const v) := by rw [← hop, hoe]
        have hdd : ops[i].dst = some t := by rw [← hdst, hoe]
        have hgd : ops[i].guard = none := by
          obtain ⟨_, _, _, _, hg⟩ := cOper_ok hE.good
          cases hgo : ops[i].guard with
          | none => rfl
          | some gw =>
            obtain ⟨q, want⟩ := gw
            rw [hgo] at hg
            obtain ⟨t', _, _, hg⟩ := hg
            rw [hoe] at hg; cases hg
        obtain ⟨x, hrun, hvp⟩ := cbox_run (P := P) (w := w) (a := a) (o := ops[i]) hopp
        have hxs : x.cells.size = v.cells.length := (vcells (c := c) (h := h) (w := w) (.pure (hvp _ _)) hvu).1
        unfold wpOp
        rw [Array.getElem?_eq_getElem hlt]
        dsimp only
        rw [if_pos (by simp [Region.wanted, hgd])]
        refine .inl ?_
        unfold Oper.wp
        rw [hrun, Oper.upon_value]
        have hx' : Ext c h w c h (w.alloc (.cells x.cells ty)) := ext_alloc _
        have hnm : ∀ q, listed.getD q false = true → unturned done' q → pb q < w.heap.size := fun q hq huq => by
          rcases hd'.dc q hq with ⟨b', hb', he⟩ | hp
          · exact absurd he (huq b' hb')
          · exact hp.lt
        refine ih done' _ _ (fun q => if q = i then w.heap.size else pb q) c h _ e' _ hu' ⟨hd'.split, rep_same hd'.rep hx' (fun q o ho => heap_push w _ _ (hd'.rep.obj q o ho).lt), hd'.ext.trans hr0 hx', by rw [put_size]; exact hd'.size, by rw [put_defers]; exact hd'.defers, hls, hd'.cont, fun q hq => ?_, fun p q hp hq hup huq he => ?_,
          fun b' hb' hs => hmono _ (hd'.sd b' hb' hs), hclosed, fun t' ht htp => ?_, fun b' hb' hl' o' ho' => hd'.Pd b' hb' (hun _ hl').1 o' ho'⟩
        · rw [hget] at hq
          by_cases hqi : q = i
          · subst hqi
            refine .inr ⟨⟨t, sz, v, pre, x.cells, ty, by rw [hLi, hoe], hvl, hvu, by rw [hput, if_pos hdd, if_pos rfl], by rw [if_pos rfl]; exact heap_new _ _, by rw [hxs]; exact hvl, fun j' u y hu hy Im w' => (hvp Im w').cells hu hy⟩, ?_, ?_, fun q' o' ho' => ?_, fun hb => ?_⟩
            · rw [if_pos rfl]; exact hd'.ext.size
            · rw [if_pos rfl, heap_size]; exact Nat.lt_succ_self _
            · rw [if_pos rfl]
              have := (hd'.rep.obj q' o' ho').lt
              omega
            · rw [if_pos rfl] at hb
              have := hd'.rep.im _ hb
              omega
          · rw [if_neg hqi] at hq
            by_cases hex : ∃ b ∈ done', b.1 = q
            · exact .inl hex
            · have huq : unturned done' q := fun b hb he => hex ⟨b, hb, he⟩
              have hp := (((hd'.dc q hq).resolve_left hex).mono (a' := a.put ops[i].dst (.pointer (some ⟨w.heap.size, 0, none⟩))) hx' fun o t' ho hot => by
                rw [hput, if_neg]
                intro he
                obtain ⟨bp, hbp, hbpe, _⟩ := hpendR q hq huq o ho
                have hne : bp ≠ b := fun h => hqi (by rw [← hbpe, h, hbe])
                rcases pairwise_or hpwd.2.1 bp hbp b hbr with h | h | h
                · exact hne h
                · obtain ⟨oa, ob, h1, h2, hr⟩ := rOk_spec h
                  rw [hbpe, ho] at h1; cases h1
                  rw [hbe, hLi] at h2; cases h2
                  exact hr.dst t' hot (by rw [hdst]; exact he)
                · obtain ⟨oa, ob, h1, h2, hr⟩ := rOk_spec h
                  rw [hbe, hLi] at h1; cases h1
                  rw [hbpe, ho] at h2; cases h2
                  exact hr.dst t' (by rw [hdst]; exact he) hot)
              refine .inr ⟨?_, ?_, ?_, ?_, ?_⟩
              · have := hp.ex
                simpa only [if_neg hqi] using this
              · simpa only [if_neg hqi] using hp.ge
              · simpa only [if_neg hqi] using hp.lt
              · simpa only [if_neg hqi] using hp.noname
              · simpa only [if_neg hqi] using hp.noim
        · rw [hget] at hp hq
          by_cases hpi : p = i <;> by_cases hqi : q = i
          · rw [hpi, hqi]
          · rw [if_pos hpi, if_neg hqi] at he
            rw [if_neg hqi] at hq
            have := hnm q hq huq
            omega
          · rw [if_neg hpi, if_pos hqi] at he
            rw [if_neg hpi] at hp
            have := hnm p hp hup
            omega
          · rw [if_neg hpi, if_neg hqi] at he
            rw [if_neg hpi] at hp
            rw [if_neg hqi] at hq
            exact hd'.pinj p q hp hq hup huq he
        · have hne : t ≠ t' := fun h => htp i (by rw [hget, if_pos rfl]) hui _ hLi (by rw [hdst, hdd, h])
          rw [hput, if_neg (by rw [hdd]; exact fun h => hne (Option.some.inj h))]
          refine (hd'.T t' (fun b' hb' hl' o' ho' => ht b' hb' ?_ o' ho') fun p hp hup => htp p (hmono p hp) hup).mono hd'.rep hx'
          rw [hget, if_neg (fun h => hui b' hb' h)]
          exact hl'
      subst hbj
      have hji : j = i := hbe
      subst hji
      have hR : ∀ b' ∈ done', ∃ ob, (LL P n ops)[b'.1]? = some ob ∧ ROk (LL P n ops) ms b' (j, true, ag) ob (cOper P n ops true ops[j]) := fun b' hb' => by
        obtain ⟨oa, ob, h1, h2, h3⟩ := rOk_spec (hpwd.2.2 b' hb' (j, true, ag) (by simp))
        have h2' : (LL P n ops)[j]? = some ob := h2
        rw [hLi] at h2'; cases h2'
        exact ⟨oa, h1, h3⟩
      have hT : ∀ t ∈ (cOper P n ops true ops[j]).reads, VR c h w (Env.get e' t) (a.tmps.getD t undef) := by
        intro t ht
        refine hd'.T t (fun b' hb' hl' o' ho' hdd => ?_) fun p hp hup op hop' hdd => by
          obtain ⟨bp, hbp, hbpe, hpa⟩ := hpendR p hp hup op hop'
          rcases List.mem_cons.1 hbp with h | h
          · rw [← hbpe, h] at hp
            have hp' : listed.getD j false = true := hp
            rw [hp'] at hl; cases hl
          · obtain ⟨oa, ob, h1, h2, hr⟩ := rOk_spec ((List.pairwise_cons.1 hpwd.2.1).1 bp h)
            have h1' : (LL P n ops)[j]? = some oa := h1
            rw [hLi] at h1'; cases h1'
            rw [hbpe, hop'] at h2; cases h2
            have := (hr.ba t hdd ht).2
            rw [hbpe] at this
            have h4 : listed.getD j false = true := hpa _ this
            rw [h4] at hl; cases hl
        obtain ⟨ob, hob, hr⟩ := hR b' hb'
        rw [ho'] at hob; cases hob
        rw [hanc _ (hr.ab t hdd ht)] at hl'; cases hl'
      have hcont := hd'.cont
      rw [aopsD_cons] at hcont
      rw [getL_eq, hLi] at hcont
      dsimp only at hcont
      have hdc : ∀ (x : Value) (c' : Cx) (h' : Heap) (w' : World), Ext c h w c' h' w' → ∀ q, (listed.setIfInBounds j true).getD q false = true → (∃ b ∈ done' ++ [(j, true, ag)], b.1 = q) ∨ PendAt P n ops w0 pb c' h' w' (a.put ops[j].dst x) q := fun x c' h' w' hx' q hq => by
        rw [hget] at hq
        by_cases h : q = j
        · exact .inl ⟨(j, true, ag), by simp, h.symm⟩
        · rw [if_neg h] at hq
          by_cases hex : ∃ b ∈ done', b.1 = q
          · obtain ⟨b', hb', he⟩ := hex
            exact .inl ⟨b', by simp [hb'], he⟩
          · have huq : unturned done' q := fun b hb he => hex ⟨b, hb, he⟩
            refine .inr (((hd'.dc q hq).resolve_left hex).mono hx' fun o t ho hot => ?_)
            rw [hput, if_neg]
            intro he
            obtain ⟨bp, hbp, hbpe, _⟩ := hpendR q hq huq o ho
            rcases List.mem_cons.1 hbp with h1 | h1
            · exact h (by rw [← hbpe, h1])
            · obtain ⟨oa, ob, h2, h3, hr⟩ := rOk_spec ((List.pairwise_cons.1 hpwd.2.1).1 bp h1)
              have h2' : (LL P n ops)[j]? = some oa := h2
              rw [hLi] at h2'; cases h2'
              rw [hbpe, ho] at h3; cases h3
              exact hr.dst t (by rw [hdst]; exact he) hot
      have hpinj : ∀ p q, (listed.setIfInBounds j true).getD p false = true → (listed.setIfInBounds j true).getD q false = true → unturned (done' ++ [(j, true, ag)]) p → unturned (done' ++ [(j, true, ag)]) q → pb p = pb q → p = q := by
        intro p q hp hq hup huq he
        have hpi : p ≠ j := fun h => hup (j, true, ag) (by simp) h.symm
        have hqi : q ≠ j := fun h => huq (j, true, ag) (by simp) h.symm
        rw [hget, if_neg hpi] at hp
        rw [hget, if_neg hqi] at hq
        exact hd'.pinj p q hp hq (fun b hb => hup b (by simp [hb])) (fun b hb => huq b (by simp [hb])) he
      have fin : ∀ (v : SV) (x : Value) (e1 : Env) (c' : Cx) (h' : Heap) (w' : World), EqE e' e1 → Rep c' h' w' → Ext c h w c' h' w' → VR c' h' w' v x → aopsD P Γ (LL P n ops) r (putE e1 (cOper P n ops true ops[j]).dst v) h' k kp →
          (∀ b' ∈ done', (listed.setIfInBounds j true).getD b'.1 false = false → ∀ o', (LL P n ops)[b'.1]? = some o' → PredV P Γ o' (putE e1 (cOper P n ops true ops[j]).dst v) h → PredV P Γ o' (putE e1 (cOper P n ops true ops[j]).dst v) h') →
          wpAny P .any ops Q fuel (listed.setIfInBounds j true) (a.put ops[j].dst x) w' := by
        intro v x e1 c' h' w' hE1 hr' hx' hvx hc hpd
        have hget1 : ∀ t, (cOper P n ops true ops[j]).dst ≠ some t → Env.get (putE e1 (cOper P n ops true ops[j]).dst v) t = Env.get e' t := fun t ht => by rw [(putE_get e1 _ v t).2 ht, ← hE1]
        refine ih (done' ++ [(j, true, ag)]) r _ pb c' h' w' _ _ hu' ⟨by rw [hd'.split]; simp, hr', hd'.ext.trans hr0 hx', by rw [put_size]; exact hd'.size, by rw [put_defers]; exact hd'.defers, hls, hc, hdc x c' h' w' hx', hpinj, fun b' hb' hs => ?_, hclosed, fun t ht htp => ?_, fun b' hb' hl' o' ho' => ?_⟩
        · rcases List.mem_append.1 hb' with h | h
          · exact hmono _ (hd'.sd b' h hs)
          · simp only [List.mem_singleton] at h; subst h
            rw [hget, if_pos rfl]
        · rw [hput]
          by_cases hdt : ops[j].dst = some t
          · rw [if_pos hdt, (putE_get e1 _ v t).1 (by rw [hdst]; exact hdt)]; exact hvx
          · rw [if_neg hdt, hget1 t (by rw [hdst]; exact hdt)]
            refine (hd'.T t (fun b' hb' hl' o' ho' => ht b' (by simp [hb']) ?_ o' ho') fun p hp hup => htp p (hmono p hp) fun b' hb' => ?_).mono hd'.rep hx'
            rotate_left
            · rcases List.mem_append.1 hb' with h | h
              · exact hup b' h
              · simp only [List.mem_singleton] at h; subst h
                intro he
                have he' : j = p := he
                rw [← he', hl] at hp; cases hp
            rw [hget, if_neg (fun e => ?_)]
            · exact hl'
            · obtain ⟨ob, _, hr⟩ := hR b' hb'
              exact hr.ne e
        · rcases List.mem_append.1 hb' with h | h
          · obtain ⟨hl2, hne⟩ := hun _ hl'
            obtain ⟨ob, hob, hr⟩ := hR b' h
            rw [ho'] at hob; cases hob
            refine hpd b' h hl' o' ho' ((hd'.Pd b' h hl2 o' ho').congr (fun t ht => (hget1 t fun hdd => ?_).symm) fun t ht => (hget1 t fun hdd => hr.dst t ht hdd).symm)
            have := (hr.ba t hdd ht).2
            rw [hanc _ this] at hl2; cases hl2
          · simp only [List.mem_singleton] at h; subst h
            rw [hget, if_pos rfl] at hl'; cases hl'
      rcases guardK_inv hcont with ⟨hw, e1, hE1, hp⟩ | ⟨hw, e1, hE1, hp⟩
      · rw [aopR_congr (fun t _ => (hE1 t).symm)] at hp
        refine exec_op hΓ (b := true) (Array.getElem?_eq_getElem hlt) hE.good hd'.rep hT hd'.size hw (fun _ => hp) (fun _ v x h' c' w' hk hr' hx' hvx => ?_) (fun _ v x h' c' w' hk hr' hx' hvx => hKP v x h' c' a w' hk hr' (hd'.ext.trans hr0 hx') hd'.size hd'.defers hvx) (fun hf => by cases hf)
        rw [putD_eq] at hk
        obtain ⟨hc, hag⟩ := againK_inv hΓ (fun q hq oi hoi => hE.ag q hq oi hoi) hk
        refine fin v x e1 c' h' w' hE1 hr' hx' hvx hc fun b' hb' hl' o' ho' hold => ?_
        obtain ⟨hl2, hne⟩ := hun _ hl'
        obtain ⟨ob, hob, hr⟩ := hR b' hb'
        rw [ho'] at hob; cases hob
        have hns : b'.2.1 = false := by
          cases hs : b'.2.1 with
          | false => rfl
          | true => rw [hd'.sd b' hb' hs] at hl2; cases hl2
        rcases hr.rd hns rfl with h1 | h1 | h1
        · rw [hanc _ h1] at hl2; cases hl2
        · exact hold.heap h1
        · obtain ⟨v', q1, q2⟩ := hold
          rcases q2 with ⟨q2, _⟩ | q2
          · exact hag _ h1 o' ho' q2
          · exact ⟨v', q1, .inr q2⟩
      · rw [putD_eq] at hp
        refine exec_op hΓ (b := false) (Array.getElem?_eq_getElem hlt) hE.good hd'.rep hT hd'.size hw (k := fun _ _ => False) (kp := fun _ _ => False) (fun hf => by cases hf) (fun hf => by cases hf) (fun hf => by cases hf) (fun _ => ?_)
        exact fin (.tup []) undef e1 c h w hE1 hd'.rep .refl (.pure (.tup _ _ rfl fun i v x hv => by simp at hv)) hp fun _ _ _ _ _ hold => hold

/-- A region that draws its order. -/
theorem dregion_wp (hΓ : Γ.Ok P) {id : Nat} (hm : P.follows .mixedOrders = true) (hok : ordOk (LL P n ops) ord = true) {c : Cx} {h : Heap} {w : World} {e : Env} {a : Act} (hp : aopsD P Γ (LL P n ops) ord e h k kp) (hr : Rep c h w) (he : ER c h w e a.tmps) (hn : a.tmps.size = n)
    (hK : ∀ e' h' c' a' w', k e' h' → Rep c' h' w' → Ext c h w c' h' w' → ER c' h' w' e' a'.tmps → a'.tmps.size = n → a'.defers = a.defers → Q .normal a' w')
    (hKP : ∀ v x h' c' a' w', kp v [] h' → Rep c' h' w' → Ext c h w c' h' w' → a'.tmps.size = n → a'.defers = a.defers → VR c' h' w' v x → Q (.panic [{ v := x, recovered := false }]) a' w') :
    (Code.region id ops true).wp P Q a w := by
  refine wp_region_any hm ?_
  have hx : Ext c h w c h { w with drawn := w.drawn + 1 } := ⟨rfl, rfl, rfl, Nat.le_refl _, fun _ _ _ => rfl, fun _ _ => rfl, fun _ h => h, fun _ h => .inl h, Nat.le_refl _, fun _ o' _ h => ⟨o', h, Nat.le_refl _, rfl, fun _ => rfl⟩, fun _ o' h => .inr ⟨o', h, rfl⟩⟩
  have hr' : Rep c h { w with drawn := w.drawn + 1 } := ⟨hr.lt, fun i o ho => (hr.obj i o ho).mono hr hx rfl, hr.inj, hr.apart, hr.im, hr.globx hx⟩
  have hfalse : ∀ i, (Array.replicate ops.size false).getD i false = false := fun i => by
    rw [Array.getD_eq_getD_getElem?, Array.getElem?_replicate]
    split <;> rfl
  refine dmain hΓ (c0 := c) (h0 := h) (w0 := w) (ds := a.defers) (ordOk_spec hok) hK hKP hr ops.size [] ord _ (fun _ => 0) c h _ e a ?_ ⟨rfl, hr', hx, hn, rfl, by simp, hp, fun i hi => ?_, fun i j hi => ?_, fun b hb => (by cases hb), fun i hi => ?_, fun t _ _ => (he t).mono hr hx, fun b hb => (by cases hb)⟩
  · unfold unl
    exact Nat.le_trans (List.length_filter_le _ _) (by simp)
  · rw [hfalse] at hi; cases hi
  · rw [hfalse] at hi; cases hi
  · rw [hfalse] at hi; cases hi
end
end Ab
namespace Ab
set_option linter.unusedVariables false
set_option linter.unusedSimpArgs false
open Go

theorem guard_cases {n : Nat} {ops : Array Oper} {pre : Bool} {P : Program} {o : Oper} {c : Cx} {h : Heap} {w : World} {e : Env} {a : Act} {run skip : Env → Prop} (he : ER c h w e a.tmps) (hn : a.tmps.size = n)
    (hp : guardK e (cOper P n ops pre o).guard run skip) (hrun : ∀ e, ER c h w e a.tmps → run e → Region.wanted o (yielded ops a.tmps) = true → (∀ d, o.dst = some d → d < n) → (cOper P n ops pre o).dst = o.dst → (cOper P n ops pre o).op = cOp P o.op → False)
    (hskip : ∀ e, ER c h w e a.tmps → skip e → Region.wanted o (yielded ops a.tmps) = false → (∀ d, o.dst = some d → d < n) → (cOper P n ops pre o).dst = o.dst → False)
    (hbad : run e → (cOper P n ops pre o).op = .bad → False) : False := by
  unfold cOper at hp hrun hskip hbad
  dsimp only at hp hrun hskip hbad
  cases hd : dstOk n o
  · rw [hd] at hp hbad
    simp only [cond_false, guardK] at hp hbad
    exact hbad hp (by first | rfl | trivial)
  · have hlt : ∀ d, o.dst = some d → d < n := fun d hdd => by
      unfold dstOk at hd
      rw [hdd] at hd
      exact Nat.lt_of_succ_le (by simpa [Nat.blt] using hd)
    rw [hd] at hp hrun hskip hbad
    simp only [cond_true] at hp hrun hskip hbad
    cases hg : o.guard with
    | none =>
      rw [hg] at hp hrun
      simp only [guardK] at hp
      exact hrun e he hp (by simp [Region.wanted, hg]) hlt (by first | rfl | trivial) (by first | rfl | trivial)
    | some gw =>
      obtain ⟨j, want⟩ := gw
      rw [hg] at hp hrun hskip hbad
      dsimp only at hp hrun hskip hbad
      cases ht : (ops[j]?).bind (·.dst) with
      | none =>
        rw [ht] at hp hbad
        simp only [guardK] at hp hbad
        exact hbad hp (by first | rfl | trivial)
      | some t =>
        rw [ht] at hp hrun hskip hbad
        dsimp only at hp hrun hskip hbad
        cases hb : Nat.blt t n
        · rw [hb] at hp hbad
          simp only [cond_false, guardK] at hp hbad
          exact hbad hp (by first | rfl | trivial)
        · have htn : t < n := by
            exact Nat.lt_of_succ_le (by simpa [Nat.blt] using hb)
          rw [hb] at hp hrun hskip hbad
          simp only [cond_true, guardK, getK_eq] at hp hrun hskip
          have hv := he t
          have hget : a.tmps[t]? = some (a.tmps.getD t undef) := by
            rw [Array.getD_eq_getD_getElem?]
            have : t < a.tmps.size := by rw [hn]; exact htn
            simp [this]
          split at hp
          · rename_i x hx
            rw [hx] at hv
            have hv := hv.bool_inv
            have hy : yielded ops a.tmps j = some x := by
              unfold yielded
              rw [ht, Option.bind_some, hget, hv]
            have hput : ∀ b, b = x → ER c h w (Env.put e t (.bool b)) a.tmps := by
              rintro b rfl u
              rw [get_put]
              by_cases hu : u = t
              · subst hu; rw [if_pos rfl, hv]; exact .bool
              · rw [if_neg hu]; exact he u
            have hw : Region.wanted o (yielded ops a.tmps) = (x == want) := by
              simp [Region.wanted, hg, hy]
            cases x <;> cases want <;> simp only [putK_eq] at hp
            · exact hrun _ (hput _ rfl) hp (by rw [hw]; rfl) hlt (by first | rfl | trivial) (by first | rfl | trivial)
            · exact hskip _ (hput _ rfl) hp (by rw [hw]; rfl) hlt (by first | rfl | trivial)
            · exact hskip _ (hput _ rfl) hp (by rw [hw]; rfl) hlt (by first | rfl | trivial)
            · exact hrun _ (hput _ rfl) hp (by rw [hw]; rfl) hlt (by first | rfl | trivial) (by first | rfl | trivial)
          · rename_i l hx
            rw [hx] at hv
            obtain ⟨cs, hcs, _⟩ := hv.tup_inv
            have hy : yielded ops a.tmps j = none := by
              unfold yielded
              rw [ht, Option.bind_some, hget, hcs]
            exact hskip _ he hp (by simp [Region.wanted, hg, hy]) hlt (by first | rfl | trivial)
          · exact hp.elim

/-- One operation of a region, guard and all. -/
theorem oper_wp {P : Program} {Γ : CallR} (hΓ : Γ.Ok P) {n : Nat} {ops : Array Oper} {pre : Bool} {Q : Exit → Act → World → Prop} {i : Nat} {o : Oper} (hi : ops[i]? = some o) {c : Cx} {h : Heap} {w : World} {e : Env} {a : Act} {K : Act → World → Prop}
    (hr : Rep c h w) (he : ER c h w e a.tmps) (hn : a.tmps.size = n) {k : Env → Heap → Prop} {kp : SV → Env → Heap → Prop}
    (hp : guardK e (cOper P n ops pre o).guard
      (fun e => aop P Γ (cOper P n ops pre o).op e h (fun v h' => putD e (cOper P n ops pre o).dst v fun e' => k e' h') (fun v h' => kp v e h'))
      (fun e => putD e (cOper P n ops pre o).dst (.tup []) fun e' => k e' h))
    (hk : ∀ e' h' c' a' w', k e' h' → Rep c' h' w' → Ext c h w c' h' w' → ER c' h' w' e' a'.tmps → a'.tmps.size = n → a'.defers = a.defers → K a' w')
    (hkp : ∀ v x e' h' c' w', kp v e' h' → Rep c' h' w' → Ext c h w c' h' w' → ER c' h' w' e' a.tmps → VR c' h' w' v x → Q (.panic [{ v := x, recovered := false }]) a w') :
    wpOp P ops Q i K a w := by
  refine Classical.byContradiction fun hneg => guard_cases he hn hp (fun e he hp hw hlt hdst hop => hneg ?_) (fun e he hp hw hlt hdst => hneg ?_) (fun hp hb => by rw [hb] at hp; exact hp)
  · unfold wpOp
    rw [hi]
    dsimp only
    rw [if_pos hw]
    rw [hop, hdst] at hp
    refine .inl (op_wp hΓ hr he hp (fun v x h' c' w' hkk hr' hx hv => ?_) (fun v x h' c' w' hkk hr' hx hv => hkp v x e h' c' w' hkk hr' hx (he.mono hr hx) hv))
    rw [putD_eq] at hkk
    exact hk _ h' c' _ w' hkk hr' hx ((he.mono hr hx).put (fun t ht => by rw [hn]; exact hlt t ht) hv) (by rw [put_size]; exact hn) (put_defers _ _ _)
  · unfold wpOp
    rw [hi]
    dsimp only
    rw [if_neg (by rw [hw]; decide)]
    rw [hdst, putD_eq] at hp
    exact hk _ h c _ w hp hr .refl (he.put (fun t ht => by rw [hn]; exact hlt t ht) (.pure (.tup _ _ rfl fun i v x hv => by simp at hv))) (by rw [put_size]; exact hn) (put_defers _ _ _)

theorem aops_sound {P : Program} {Γ : CallR} (hΓ : Γ.Ok P) {n : Nat} {ops : Array Oper} {Q : Exit → Act → World → Prop} {k : Env → Heap → Prop} {kp : SV → Env → Heap → Prop} :
    ∀ (m j : Nat) (c : Cx) (h : Heap) (w : World) (e : Env) (a : Act), j + m = ops.size → aops P Γ ((ops.toList.drop j).map (cOper P n ops false)) e h k kp → Rep c h w → ER c h w e a.tmps → a.tmps.size = n →
    (∀ e' h' c' a' w', k e' h' → Rep c' h' w' → Ext c h w c' h' w' → ER c' h' w' e' a'.tmps → a'.tmps.size = n → a'.defers = a.defers → Q .normal a' w') →
    (∀ v x e' h' c' a' w', kp v e' h' → Rep c' h' w' → Ext c h w c' h' w' → ER c' h' w' e' a'.tmps → a'.tmps.size = n → a'.defers = a.defers → VR c' h' w' v x → Q (.panic [{ v := x, recovered := false }]) a' w') →
    wpOps P ops Q (List.range' j m) a w
  | 0, j, c, h, w, e, a, hj, hp, hr, he, hn, hk, hkp => by
    have : ops.toList.drop j = [] := List.drop_eq_nil_iff.2 (by simp; omega)
    rw [this] at hp
    exact hk e h c a w hp hr .refl he hn rfl
  | m+1, j, c, h, w, e, a, hj, hp, hr, he, hn, hk, hkp => by
    have hlt : j < ops.size := by omega
    have hd : ops.toList.drop j = ops[j] :: ops.toList.drop (j + 1) := by
      rw [List.drop_eq_getElem_cons (by simpa using hlt)]
      simp
    rw [hd, List.map_cons] at hp
    rw [List.range'_succ, wpOps_cons]
    refine oper_wp hΓ (k := fun e' h' => aops P Γ ((ops.toList.drop (j + 1)).map (cOper P n ops false)) e' h' k kp) (kp := kp) (Array.getElem?_eq_getElem hlt) hr he hn hp (fun e' h' c' a' w' hkk hr' hx he' hn' hdf => ?_) (fun v x e' h' c' w' hkk hr' hx he' hv => hkp v x e' h' c' a w' hkk hr' hx he' hn rfl hv)
    refine aops_sound hΓ m (j + 1) c' h' w' e' a' (by omega) hkk hr' he' hn' (fun e2 h2 c2 a2 w2 hk2 hr2 hx2 he2 hn2 hdf2 => ?_) (fun v x e2 h2 c2 a2 w2 hk2 hr2 hx2 he2 hn2 hdf2 hv => ?_)
    · exact hk e2 h2 c2 a2 w2 hk2 hr2 (hx.trans hr hx2) he2 hn2 (hdf2.trans hdf)
    · exact hkp v x e2 h2 c2 a2 w2 hk2 hr2 (hx.trans hr hx2) he2 hn2 (hdf2.trans hdf) hv

/-! ## Code -/
def erase : ACode → ACode
  | .skip => .skip
  | .region ops _ => .region ops []
  | .dregion ops _ _ => .dregion ops [] []
  | .seq a b => .seq (erase a) (erase b)
  | .cond c a b => .cond c (erase a) (erase b)
  | .block id b => .block id (erase b)
  | .loop b => .loop (erase b)
  | .exit id => .exit id
  | .ret => .ret
  | .bad => .bad

def ExR (c : Cx) (h : Heap) (w : World) : Exit → AExit → Prop
  | .normal, .normal => True
  | .exit i, .exit j => i = j
  | .ret, .ret => True
  | .panic ch, .panic v => ∃ x, ch = [{ v := x, recovered := false }] ∧ VR c h w v x
  | _, _ => False

def Post (c : Cx) (h : Heap) (w : World) (Q : AExit → Env → Heap → Prop) (n : Nat) (ds : List Deferred) (ex : Exit) (a' : Act) (w' : World) : Prop :=
  ∃ c' h' e' x, Q x e' h' ∧ Rep c' h' w' ∧ Ext c h w c' h' w' ∧ ER c' h' w' e' a'.tmps ∧ a'.tmps.size = n ∧ a'.defers = ds ∧ ExR c' h' w' ex x

/-- What the code does, from symbolic memory on. -/
def AWP (P : Program) (n : Nat) (code : Code) (Q : AExit → Env → Heap → Prop) (e : Env) (h : Heap) : Prop :=
  ∀ (c : Cx) (w : World) (a : Act), Rep c h w → ER c h w e a.tmps → a.tmps.size = n → code.wp P (Post c h w Q n a.defers) a w

/-- The orders that the code tells are the regions' own. -/
def ordsOk : ACode → Bool
  | .dregion ops ord _ => ordOk ops ord
  | .seq a b | .cond _ a b => ordsOk a && ordsOk b
  | .block _ b | .loop b => ordsOk b
  | _ => true

structure ALoop (P : Program) (b : ACode) (Q : AExit → Env → Heap → Prop) (e : Env) (h : Heap) : Prop where
  run : ∀ n code, P.follows .mixedOrders = true → ordsOk b = true → erase b = cCode P n code → AWP P n (.loop code) Q e h

def seqQ (k : Env → Heap → Prop) (Q : AExit → Env → Heap → Prop) : AExit → Env → Heap → Prop
  | .normal, e, h => k e h
  | x, e, h => Q x e h
def blockQ (id : Nat) (Q : AExit → Env → Heap → Prop) : AExit → Env → Heap → Prop
  | .exit j, e, h => @Bool.rec (fun _ => Prop) (Q (.exit j) e h) (Q .normal e h) (Nat.beq j id)
  | x, e, h => Q x e h
def condK (c : AOpd) (e : Env) (h : Heap) (a b : Env → Heap → Prop) : Prop := match c with
    | .tmp t => Env.getK e t fun c => match c with
      | .bool x => @Bool.rec (fun _ => Prop) (Env.putK e t (.bool false) fun e => b e h) (Env.putK e t (.bool true) fun e => a e h) x
      | _ => False
    | .const c => match c with
      | .bool x => @Bool.rec (fun _ => Prop) (b e h) (a e h) x
      | _ => False
abbrev LoopR := ACode → (AExit → Env → Heap → Prop) → Env → Heap → Prop
def awpC (P : Program) (Γ : CallR) (Λ : LoopR) (code : ACode) : (AExit → Env → Heap → Prop) → Env → Heap → Prop :=
  @ACode.rec (fun _ => (AExit → Env → Heap → Prop) → Env → Heap → Prop)
    (fun Q e h => Q .normal e h)
    (fun ops fg Q e h => aops P Γ ops e h (fun e' h' => Env.dropsK fg e' fun e'' => Q .normal e'' h') (fun v e' h' => Q (.panic v) e' h'))
    (fun ops ord fg Q e h => aopsD P Γ ops ord e h (fun e' h' => Env.dropsK fg e' fun e'' => Q .normal e'' h') (fun v e' h' => Q (.panic v) e' h'))
    (fun _ _ a b Q e h => a (seqQ (b Q) Q) e h)
    (fun c _ _ a b Q e h => condK c e h (a Q) (b Q))
    (fun id _ b Q e h => b (blockQ id Q) e h)
    (fun b _ Q e h => Λ b Q e h)
    (fun id Q e h => Q (.exit id) e h)
    (fun Q e h => Q .ret e h)
    (fun _ _ _ => False) code
def awp (P : Program) (code : ACode) : (AExit → Env → Heap → Prop) → Env → Heap → Prop := awpC P (aCall P) (ALoop P) code

section
variable {P : Program} {Γ : CallR} {n : Nat}

theorem Post.of {c : Cx} {h : Heap} {w : World} {Q : AExit → Env → Heap → Prop} {ds : List Deferred} {ex : Exit} {a' : Act} {w' : World} {c1 : Cx} {h1 : Heap} {w1 : World} (hr : Rep c h w) (hx : Ext c h w c1 h1 w1)
    (hp : Post c1 h1 w1 Q n ds ex a' w') : Post c h w Q n ds ex a' w' := by
  obtain ⟨c', h', e', x, hq, hr', hx', he', hn', hd', hex⟩ := hp
  exact ⟨c', h', e', x, hq, hr', hx.trans hr hx', he', hn', hd', hex⟩

theorem awpC_sound {Λ : LoopR} (hΓ : Γ.Ok P) (hΛ : ∀ b Q e h, Λ b Q e h → ALoop P b Q e h) (hm : P.follows .mixedOrders = true) : ∀ (code : Code) (ac : ACode) (Q : AExit → Env → Heap → Prop) (e : Env) (h : Heap), ordsOk ac = true → erase ac = cCode P n code → awpC P Γ Λ ac Q e h → AWP P n code Q e h
  | .skip, ac, Q, e, h, ho, hc, hp => by
    cases ac <;> simp only [erase, cCode] at hc <;> try cases hc
    intro c w a hr he hn
    exact wp_skip ⟨c, h, e, .normal, hp, hr, .refl, he, hn, rfl, trivial⟩
  | .region id ops false, ac, Q, e, h, ho, hc, hp => by
    simp only [cCode, cond_false] at hc
    cases ac <;> simp only [erase] at hc <;> try cases hc
    intro c w a hr he hn
    refine wp_region ?_
    rw [List.range_eq_range']
    refine aops_sound hΓ ops.size 0 c h w e a (by simp) (by rw [List.drop_zero]; exact hp) hr he hn (fun e' h' c' a' w' hk hr' hx he' hn' hd' => ?_) (fun v x e' h' c' a' w' hk hr' hx he' hn' hd' hv => ?_)
    · rw [dropsK_eq] at hk
      exact ⟨c', h', _, .normal, hk, hr', hx, he'.drops _, hn', hd', trivial⟩
    · exact ⟨c', h', e', .panic v, hk, hr', hx, he', hn', hd', x, rfl, hv⟩
  | .region id ops true, ac, Q, e, h, ho, hc, hp => by
    simp only [cCode, cond_true] at hc
    cases ac <;> simp only [erase] at hc <;> try cases hc
    intro c w a hr he hn
    refine dregion_wp hΓ hm ho hp hr he hn (fun e' h' c' a' w' hk hr' hx he' hn' hd' => ?_) (fun v x h' c' a' w' hk hr' hx hn' hd' hv => ?_)
    · rw [dropsK_eq] at hk
      exact ⟨c', h', _, .normal, hk, hr', hx, he'.drops _, hn', hd', trivial⟩
    · exact ⟨c', h', [], .panic v, hk, hr', hx, fun t => .undef, hn', hd', x, rfl, hv⟩
  | .seq x y, ac, Q, e, h, ho, hc, hp => by
    cases ac <;> simp only [erase, cCode, ACode.seq.injEq, reduceCtorEq] at hc
    rename_i ax ay
    simp only [ordsOk, Bool.and_eq_true] at ho
    intro c w a hr he hn
    refine wp_seq (wp_mono (awpC_sound hΓ hΛ hm x ax _ e h ho.1 hc.1 hp c w a hr he hn) fun ex a' w' hpost => ?_)
    obtain ⟨c', h', e', xx, hq, hr', hx', he', hn', hd', hex⟩ := hpost
    cases ex with
    | normal =>
      cases xx <;> try exact hex.elim
      simp only [Exit.then]
      have := awpC_sound hΓ hΛ hm y ay Q e' h' ho.2 hc.2 hq c' w' a' hr' he' hn'
      rw [hd'] at this
      exact wp_mono this fun _ _ _ hp2 => hp2.of hr hx'
    | exit i => cases xx <;> first | exact hex.elim | exact ⟨c', h', e', _, hq, hr', hx', he', hn', hd', hex⟩
    | goto l => cases xx <;> exact hex.elim
    | ret => cases xx <;> first | exact hex.elim | exact ⟨c', h', e', _, hq, hr', hx', he', hn', hd', hex⟩
    | panic ch => cases xx <;> first | exact hex.elim | exact ⟨c', h', e', _, hq, hr', hx', he', hn', hd', hex⟩
    | outgrown => cases xx <;> exact hex.elim
  | .cond cc x y, ac, Q, e, h, ho, hc, hp => by
    cases ac <;> simp only [erase, cCode, ACode.cond.injEq, reduceCtorEq] at hc
    rename_i ac ax ay
    obtain ⟨hcc, hcx, hcy⟩ := hc
    simp only [ordsOk, Bool.and_eq_true] at ho
    intro c w a hr he hn
    have hv := he.ev cc
    rw [← hcc] at hv
    cases ac with
    | tmp t =>
      replace hp : condK (.tmp t) e h (awpC P Γ Λ ax Q) (awpC P Γ Λ ay Q) := hp
      simp only [condK, getK_eq] at hp
      have hev : (AOpd.tmp t).ev e = Env.get e t := rfl
      rw [hev] at hv
      split at hp
      · rename_i b hb
        rw [hb] at hv
        have hvb := hv.bool_inv
        refine wp_cond hvb ?_
        have hput : ∀ b', b' = b → ER c h w (Env.put e t (.bool b')) a.tmps := by
          rintro b' rfl u
          rw [get_put]
          by_cases hu : u = t
          · subst hu
            rw [if_pos rfl]
            have := he u
            rw [hb] at this
            exact this
          · rw [if_neg hu]; exact he u
        cases b <;> simp only [putK_eq] at hp
        · exact awpC_sound hΓ hΛ hm y ay Q _ h ho.2 hcy hp c w a hr (hput _ rfl) hn
        · exact awpC_sound hΓ hΛ hm x ax Q _ h ho.1 hcx hp c w a hr (hput _ rfl) hn
      · exact hp.elim
    | const v =>
      replace hp : condK (.const v) e h (awpC P Γ Λ ax Q) (awpC P Γ Λ ay Q) := hp
      simp only [condK] at hp
      have hev : (AOpd.const v).ev e = v := rfl
      rw [hev] at hv
      split at hp
      · have hvb := hv.bool_inv
        refine wp_cond hvb ?_
        rename_i b
        cases b
        · exact awpC_sound hΓ hΛ hm y ay Q _ h ho.2 hcy hp c w a hr he hn
        · exact awpC_sound hΓ hΛ hm x ax Q _ h ho.1 hcx hp c w a hr he hn
      · exact hp.elim
  | .block id b, ac, Q, e, h, ho, hc, hp => by
    cases ac <;> simp only [erase, cCode, ACode.block.injEq, reduceCtorEq] at hc
    rename_i aid ab
    obtain ⟨rfl, hc⟩ := hc
    intro c w a hr he hn
    refine wp_block (wp_mono (awpC_sound hΓ hΛ hm b ab _ e h ho hc hp c w a hr he hn) fun ex a' w' hpost => ?_)
    obtain ⟨c', h', e', xx, hq, hr', hx', he', hn', hd', hex⟩ := hpost
    cases ex with
    | normal => cases xx <;> first | exact hex.elim | exact ⟨c', h', e', _, hq, hr', hx', he', hn', hd', hex⟩
    | exit i =>
      cases xx <;> try exact hex.elim
      rename_i j
      have hij : i = j := hex
      subst hij
      simp only [Exit.inBlock]
      rcases beq_cases i aid with ⟨hb, hb'⟩ | ⟨hb, hb'⟩
      · rw [if_pos hb']
        simp only [blockQ, hb] at hq
        exact ⟨c', h', e', .normal, hq, hr', hx', he', hn', hd', trivial⟩
      · rw [if_neg hb']
        simp only [blockQ, hb] at hq
        exact ⟨c', h', e', .exit i, hq, hr', hx', he', hn', hd', rfl⟩
    | goto l => cases xx <;> exact hex.elim
    | ret => cases xx <;> first | exact hex.elim | exact ⟨c', h', e', _, hq, hr', hx', he', hn', hd', hex⟩
    | panic ch => cases xx <;> first | exact hex.elim | exact ⟨c', h', e', _, hq, hr', hx', he', hn', hd', hex⟩
    | outgrown => cases xx <;> exact hex.elim
  | .loop b, ac, Q, e, h, ho, hc, hp => by
    cases ac <;> simp only [erase, cCode, ACode.loop.injEq, reduceCtorEq] at hc
    exact (hΛ _ _ _ _ hp).run n b hm ho hc
  | .exit id, ac, Q, e, h, ho, hc, hp => by
    cases ac <;> simp only [erase, cCode, ACode.exit.injEq, reduceCtorEq] at hc
    subst hc
    intro c w a hr he hn
    exact wp_exit ⟨c, h, e, .exit _, hp, hr, .refl, he, hn, rfl, rfl⟩
  | .ret, ac, Q, e, h, ho, hc, hp => by
    cases ac <;> simp only [erase, cCode, reduceCtorEq] at hc
    intro c w a hr he hn
    exact wp_ret ⟨c, h, e, .ret, hp, hr, .refl, he, hn, rfl, trivial⟩
  | .rangeFunc _ _ _ _, ac, Q, e, h, ho, hc, hp => by
    cases ac <;> simp only [erase, cCode, reduceCtorEq] at hc
    exact hp.elim
  | .scope _, ac, Q, e, h, ho, hc, hp => by
    cases ac <;> simp only [erase, cCode, reduceCtorEq] at hc
    exact hp.elim
  | .label _, ac, Q, e, h, ho, hc, hp => by
    cases ac <;> simp only [erase, cCode, reduceCtorEq] at hc
    exact hp.elim
  | .goto _, ac, Q, e, h, ho, hc, hp => by
    cases ac <;> simp only [erase, cCode, reduceCtorEq] at hc
    exact hp.elim
  | .refuse _, ac, Q, e, h, ho, hc, hp => by
    cases ac <;> simp only [erase, cCode, reduceCtorEq] at hc
    exact hp.elim

theorem awp_sound (hm : P.follows .mixedOrders = true) (code : Code) (ac : ACode) (Q : AExit → Env → Heap → Prop) (e : Env) (h : Heap) (ho : ordsOk ac = true) (hc : erase ac = cCode P n code) (hp : awp P ac Q e h) : AWP P n code Q e h :=
  awpC_sound (Γ := aCall P) (Λ := ALoop P) aCall_ok (fun _ _ _ _ h => h) hm code ac Q e h ho hc hp
end
end Ab
namespace Ab
set_option linter.unusedVariables false
set_option linter.unusedSimpArgs false
open Go

/-- Does a value speak of names below n alone? -/
def SV.lt : Nat → Nat → SV → Bool
  | 0, _, _ => false
  | f+1, n, v => match v with
    | .ref i _ _ _ => Nat.blt i n
    | .sl i _ _ _ _ _ => Nat.blt i n
    | .agg l | .tup l => l.all (SV.lt f n)
    | .func _ a b => a.all (SV.lt f n) && b.all (SV.lt f n)
    | .iface _ v => SV.lt f n v
    | _ => true
def objLt (n : Nat) : AObj → Prop
  | .vec _ _ elems _ => ∀ v ∈ elems, SV.lt 8 n v = true
  | .iter _ _ => True
noncomputable section
/-- The slots of these numbers alone. -/
def pickK : List Nat → Env → (Env → Prop) → Prop
  | [], _, k => k []
  | t :: ts, e, k => Env.getK e t fun v => pickK ts e fun e' => k ((t, v) :: e')
def allLtK (n : Nat) (l : List SV) (k : Prop) : Prop := @List.rec SV (fun _ => Prop) k (fun v _ ih => asr (SV.lt 8 n v) ih) l
def objLtK (n : Nat) (o : AObj) (k : Prop) : Prop := match o with
  | .vec _ _ elems _ => allLtK n elems k
  | .iter _ _ => k
def cutHK (n : Nat) (l : List (Nat × AObj)) : (List (Nat × AObj) → Prop) → Prop :=
  @List.rec (Nat × AObj) (fun _ => (List (Nat × AObj) → Prop) → Prop) (fun k => k [])
    (fun x _ ih k => match x with
      | (i, o) => @Bool.rec (fun _ => Prop) (ih k) (objLtK n o (ih fun r' => k ((i, o) :: r'))) (Nat.blt i n)) l
def ltE (n : Nat) : Env → Bool
  | [] => true
  | (_, v) :: r => SV.lt 8 n v && ltE n r
/-- Behind a round: the slots that stood at the loop's head, and the blocks that were there. -/
def cutK (ks : List Nat) (n : Nat) (e : Env) (h : Heap) (k : Env → Heap → Prop) : Prop := pickK ks e fun e' => match h with
  | ⟨m, l⟩ => @Bool.rec (fun _ => Prop) (asr (ltE n e' && Nat.ble n m) (cutHK n l fun l' => k e' ⟨n, l'⟩)) (k e' ⟨m, l⟩) (Nat.beq m n)
def backQ (ks : List Nat) (n : Nat) (Q : AExit → Env → Heap → Prop) (I : Env → Heap → Prop) : AExit → Env → Heap → Prop
  | .normal, e, h => cutK ks n e h I
  | x, e, h => Q x e h
def Env.keys : Env → List Nat
  | [] => []
  | (t, _) :: r => t :: Env.keys r
end

theorem VR.cut {c : Cx} {A A' : Heap} {w : World} (hsub : ∀ i o, A'.obj i = some o → A.obj i = some o) : ∀ (f : Nat) {v : SV} {x : Value}, SV.lt f A'.nxt v = true → VR c A w v x → VR c A' w v x := by
  intro f
  induction f with
  | zero => intro v x hl; cases hl
  | succ f ih =>
    intro v x hl hv
    have hnat : ∀ i, Nat.blt i A'.nxt = true → i < A'.nxt := fun i hi => Nat.lt_of_succ_le (by simpa [Nat.blt] using hi)
    cases hv with
    | pure h => exact .pure h
    | ref i g idx sub x hx hi hg h => exact .ref _ _ _ _ _ hx (hnat i hl) (fun o ho => hg o (hsub i o ho)) fun o ho => h o (hsub i o ho)
    | sl i g sz off len cap x hx hi hg h => exact .sl _ _ _ _ _ _ _ hx (hnat i hl) (fun o ho => hg o (hsub i o ho)) fun o ho => h o (hsub i o ho)
    | iface t v x h => exact .iface _ _ _ (ih hl h)
    | agg l cs hll h => exact .agg _ _ hll fun i v y h1 h2 => ih (List.all_eq_true.1 hl v (List.mem_of_getElem? h1)) (h i v y h1 h2)
    | tup l cs hll h => exact .tup _ _ hll fun i v y h1 h2 => ih (List.all_eq_true.1 hl v (List.mem_of_getElem? h1)) (h i v y h1 h2)
    | func fn a b a' b' ha hb h h' =>
      simp only [SV.lt, Bool.and_eq_true] at hl
      exact .func _ _ _ _ _ ha hb (fun i v y h1 h2 => ih (List.all_eq_true.1 hl.1 v (List.mem_of_getElem? h1)) (h i v y h1 h2)) fun i v y h1 h2 => ih (List.all_eq_true.1 hl.2 v (List.mem_of_getElem? h1)) (h' i v y h1 h2)

theorem allLtK_iff {n : Nat} {k : Prop} : ∀ {l : List SV}, allLtK n l k ↔ (∀ v ∈ l, SV.lt 8 n v = true) ∧ k
  | [] => by simp [allLtK]
  | v :: r => by
    have e : allLtK n (v :: r) k = asr (SV.lt 8 n v) (allLtK n r k) := rfl
    rw [e, asr_iff, allLtK_iff]
    simp [and_assoc]
theorem allLtK_of {n : Nat} {k : Prop} {l : List SV} (h : ∀ v ∈ l, SV.lt 8 n v = true) (hk : k) : allLtK n l k := allLtK_iff.2 ⟨h, hk⟩
theorem objLtK_inv {n : Nat} {o : AObj} {k : Prop} (h : objLtK n o k) : objLt n o ∧ k := by
  cases o with
  | vec g sz elems sk => exact allLtK_iff.1 h
  | iter s pos => exact ⟨trivial, h⟩
theorem cutHK_inv {n : Nat} : ∀ {l : List (Nat × AObj)} {k : List (Nat × AObj) → Prop}, cutHK n l k → ∃ l', k l' ∧ (∀ i o, objL l' i = some o → objL l i = some o ∧ i < n ∧ objLt n o) ∧ True
  | [], k, hp => ⟨[], hp, (fun i o ho => by cases ho), trivial⟩
  | (i, o) :: r, k, hp => by
    replace hp : @Bool.rec (fun _ => Prop) (cutHK n r k) (objLtK n o (cutHK n r fun r' => k ((i, o) :: r'))) (Nat.blt i n) := hp
    rcases brE hp with ⟨hb, hp⟩ | ⟨hb, hp⟩
    · obtain ⟨ho, hp⟩ := objLtK_inv hp
      obtain ⟨l', hk, hl, _⟩ := cutHK_inv hp
      refine ⟨_, hk, fun j oj hj => ?_, trivial⟩
      unfold objL at hj ⊢
      by_cases hij : i = j
      · rw [if_pos hij] at hj ⊢
        cases hj
        exact ⟨rfl, by rw [← hij]; exact Nat.lt_of_succ_le (by simpa [Nat.blt] using hb), ho⟩
      · rw [if_neg hij] at hj ⊢
        exact hl j oj hj
    · obtain ⟨l', hk, hl, _⟩ := cutHK_inv hp
      refine ⟨l', hk, fun j oj hj => ?_, trivial⟩
      obtain ⟨h1, h2, h3⟩ := hl j oj hj
      refine ⟨?_, h2, h3⟩
      unfold objL
      rw [if_neg (fun hij => ?_)]
      · exact h1
      · subst hij
        have : Nat.blt i n = true := by
          have : i + 1 ≤ n := h2
          simpa [Nat.blt] using this
        rw [this] at hb; cases hb

theorem pickK_inv : ∀ {ks : List Nat} {e : Env} {k : Env → Prop}, pickK ks e k → ∃ e', k e' ∧ ∀ t, Env.get e' t = .undef ∨ Env.get e' t = Env.get e t
  | [], e, k, hp => ⟨[], hp, fun t => .inl rfl⟩
  | s :: ts, e, k, hp => by
    simp only [pickK, getK_eq] at hp
    obtain ⟨e', hk, he⟩ := pickK_inv hp
    refine ⟨_, hk, fun t => ?_⟩
    conv => lhs; lhs; unfold Env.get
    conv => rhs; lhs; unfold Env.get
    rcases beq_cases s t with ⟨h, h'⟩ | ⟨h, h'⟩ <;> rw [h]
    · subst h'; exact .inr rfl
    · exact he t

theorem ltE_get {n : Nat} : ∀ {e : Env}, ltE n e = true → ∀ t, SV.lt 8 n (Env.get e t) = true
  | [], _, t => rfl
  | (s, v) :: r, hl, t => by
    simp only [ltE, Bool.and_eq_true] at hl
    unfold Env.get
    rcases beq_cases s t with ⟨h, h'⟩ | ⟨h, h'⟩ <;> rw [h]
    · exact hl.1
    · exact ltE_get hl.2 t

/-- What stands behind a cut still reads so. -/
theorem cutK_inv {ks : List Nat} {n : Nat} {e : Env} {h : Heap} {k : Env → Heap → Prop} (hp : cutK ks n e h k) {c : Cx} {w : World} {tmps : Array Value} (hr : Rep c h w) (he : ER c h w e tmps) {c0 : Cx} {h0 : Heap} {w0 : World} (hx : Ext c0 h0 w0 c h w) (hn : h0.nxt ≤ n) :
    ∃ e' h', k e' h' ∧ Rep c h' w ∧ ER c h' w e' tmps ∧ Ext c0 h0 w0 c h' w := by
  unfold cutK at hp
  obtain ⟨e', hp, hee⟩ := pickK_inv hp
  obtain ⟨m, l⟩ := h
  have he' : ER c ⟨m, l⟩ w e' tmps := fun t => by
    rcases hee t with h | h
    · rw [h]; exact .undef
    · rw [h]; exact he t
  rcases brE hp with ⟨hb, hp⟩ | ⟨hb, hp⟩
  · exact ⟨e', _, hp, hr, he', hx⟩
  · replace hp := asr_iff.1 hp
    obtain ⟨hlt, hp⟩ := hp
    simp only [Bool.and_eq_true] at hlt
    obtain ⟨l', hk, hl, _⟩ := cutHK_inv hp
    have hsub : ∀ i o, (Heap.mk n l').obj i = some o → (Heap.mk m l).obj i = some o := fun i o ho => (hl i o ho).1
    refine ⟨e', _, hk, ⟨fun i o ho => (hl i o ho).2.1, fun i o ho => ?_, fun i j o p ho hp' heq => hr.inj i j o p (hsub i o ho) (hsub j p hp') heq, fun i o ho => hr.apart i o (hsub i o ho), hr.im, hr.glob⟩, fun t => (he' t).cut hsub 8 (ltE_get hlt.1 t), ?_⟩
    · have hor := hr.obj i o (hsub i o ho)
      have holt := (hl i o ho).2.2
      cases hor with
      | vec g sz elems slack C ty fz hw hle heq hty hc hf hcell =>
        refine .vec g sz elems slack C ty fz hw hle heq hty hc hf fun i j e v x h1 h2 h3 => ?_
        have hv := hcell i j e v x h1 h2 h3
        have hlte := holt e (List.mem_of_getElem? h1)
        by_cases hagg : ∃ l, e = .agg l
        · obtain ⟨l, rfl⟩ := hagg
          exact hv.cut hsub 7 (List.all_eq_true.1 hlte v (List.mem_of_getElem? h2))
        · have h1 : e.cells = [e] := by cases e <;> first | rfl | exact absurd ⟨_, rfl⟩ hagg
          rw [h1] at h2
          cases j with
          | zero => simp at h2; subst h2; exact hv.cut hsub 8 hlte
          | succ j => simp at h2
      | iter s pos hw => exact .iter s pos hw
    · refine ⟨hx.os, hx.tape, hx.output, hx.size, hx.frame, hx.shape, hx.im, hx.im', hn, fun i o' hi ho' => hx.old i o' hi (hsub i o' ho'), fun i o' ho' => hx.new i o' (hsub i o' ho')⟩

/-- A loop, by a number that falls. -/
theorem loop_ok {P : Program} {b : ACode} {Q : AExit → Env → Heap → Prop} (J : Nat → Env → Heap → Prop)
    (hJ : ∀ m e h, J m e h → awp P b (backQ (Env.keys e) h.nxt Q (fun e' h' => ∃ m', m' < m ∧ J m' e' h')) e h) {m : Nat} {e : Env} {h : Heap} (h0 : J m e h) : ALoop P b Q e h := by
  refine ⟨fun n code hmix hord hc c w a hr he hn => ?_⟩
  let I : Nat → Act → World → Prop := fun m' a' w' => ∃ c' e' h', J m' e' h' ∧ Rep c' h' w' ∧ Ext c h w c' h' w' ∧ ER c' h' w' e' a'.tmps ∧ a'.tmps.size = n ∧ a'.defers = a.defers
  have hleast : ∀ a' w', (∃ m', I m' a' w') → ∃ m', I m' a' w' ∧ ∀ m'', I m'' a' w' → m' ≤ m'' := by
    intro a' w' ⟨m', hm'⟩
    refine Classical.byContradiction fun hno => ?_
    have : ∀ k, ∀ m'', m'' ≤ k → ¬ I m'' a' w' := by
      intro k
      induction k with
      | zero => intro m'' hk hI; exact hno ⟨m'', hI, fun m3 _ => by omega⟩
      | succ k ih =>
        intro m'' hk hI
        refine hno ⟨m'', hI, fun m3 h3 => ?_⟩
        rcases Nat.lt_or_ge k m3 with h | h
        · omega
        · exact absurd h3 (ih m3 h)
    exact this m' m' (Nat.le_refl _) hm'
  classical
  let μ : Act → World → Nat := fun a' w' => if hh : ∃ m', I m' a' w' then Classical.choose (hleast a' w' hh) else 0
  have hμ : ∀ a' w' m', I m' a' w' → I (μ a' w') a' w' ∧ μ a' w' ≤ m' := by
    intro a' w' m' hm'
    have hh : ∃ m', I m' a' w' := ⟨m', hm'⟩
    have hs := Classical.choose_spec (hleast a' w' hh)
    have e : μ a' w' = Classical.choose (hleast a' w' hh) := by simp only [μ]; rw [dif_pos hh]
    rw [e]
    exact ⟨hs.1, hs.2 m' hm'⟩
  refine wp_loop (fun a' w' => ∃ m', I m' a' w') μ ⟨m, c, e, h, h0, hr, .refl, he, hn, rfl⟩ fun a1 w1 hI => ?_
  obtain ⟨m1, hI1⟩ := hI
  obtain ⟨⟨c1, e1, h1, hj, hr1, hx1, he1, hn1, hd1⟩, _⟩ := hμ a1 w1 m1 hI1
  have hb := awp_sound (n := n) hmix code b _ e1 h1 hord hc (hJ _ e1 h1 hj) c1 w1 a1 hr1 he1 hn1
  refine wp_mono hb fun ex a2 w2 hpost => ?_
  obtain ⟨c2, h2, e2, xx, hq, hr2, hx2, he2, hn2, hd2, hex⟩ := hpost
  cases ex with
  | normal =>
    cases xx <;> try exact hex.elim
    obtain ⟨e3, h3, ⟨m3, hlt, hj3⟩, hr3, he3, hx3⟩ := cutK_inv (ks := Env.keys e1) (k := fun e' h' => ∃ m', m' < μ a1 w1 ∧ J m' e' h') hq hr2 he2 hx2 (Nat.le_refl _)
    simp only [Exit.then]
    have hI3 : I m3 a2 w2 := ⟨c2, e3, h3, hj3, hr3, hx1.trans hr hx3, he3, hn2, hd2.trans hd1⟩
    exact ⟨⟨m3, hI3⟩, Nat.lt_of_le_of_lt (hμ a2 w2 m3 hI3).2 hlt⟩
  | exit i => cases xx <;> first | exact hex.elim | exact ⟨c2, h2, e2, _, hq, hr2, hx1.trans hr hx2, he2, hn2, hd2.trans hd1, hex⟩
  | goto l => cases xx <;> exact hex.elim
  | ret => cases xx <;> first | exact hex.elim | exact ⟨c2, h2, e2, _, hq, hr2, hx1.trans hr hx2, he2, hn2, hd2.trans hd1, hex⟩
  | panic ch => cases xx <;> first | exact hex.elim | exact ⟨c2, h2, e2, _, hq, hr2, hx1.trans hr hx2, he2, hn2, hd2.trans hd1, hex⟩
  | outgrown => cases xx <;> exact hex.elim

/-- The same; what was made up to a number lives on. -/
theorem loop_okN {P : Program} {b : ACode} {Q : AExit → Env → Heap → Prop} (J : Nat → Env → Heap → Prop)
    (hJ : ∀ m e h, J m e h → ∃ N K, h.nxt ≤ N ∧ (∀ e' h', K e' h' → ∃ m', m' < m ∧ J m' e' h') ∧ awp P b (backQ (Env.keys e) N Q K) e h) {m : Nat} {e : Env} {h : Heap} (h0 : J m e h) : ALoop P b Q e h := by
  refine ⟨fun n code hmix hord hc c w a hr he hn => ?_⟩
  let I : Nat → Act → World → Prop := fun m' a' w' => ∃ c' e' h', J m' e' h' ∧ Rep c' h' w' ∧ Ext c h w c' h' w' ∧ ER c' h' w' e' a'.tmps ∧ a'.tmps.size = n ∧ a'.defers = a.defers
  have hleast : ∀ a' w', (∃ m', I m' a' w') → ∃ m', I m' a' w' ∧ ∀ m'', I m'' a' w' → m' ≤ m'' := by
    intro a' w' ⟨m', hm'⟩
    refine Classical.byContradiction fun hno => ?_
    have : ∀ k, ∀ m'', m'' ≤ k → ¬ I m'' a' w' := by
      intro k
      induction k with
      | zero => intro m'' hk hI; exact hno ⟨m'', hI, fun m3 _ => by omega⟩
      | succ k ih =>
        intro m'' hk hI
        refine hno ⟨m'', hI, fun m3 h3 => ?_⟩
        rcases Nat.lt_or_ge k m3 with h | h
        · omega
        · exact absurd h3 (ih m3 h)
    exact this m' m' (Nat.le_refl _) hm'
  classical
  let μ : Act → World → Nat := fun a' w' => if hh : ∃ m', I m' a' w' then Classical.choose (hleast a' w' hh) else 0
  have hμ : ∀ a' w' m', I m' a' w' → I (μ a' w') a' w' ∧ μ a' w' ≤ m' := by
    intro a' w' m' hm'
    have hh : ∃ m', I m' a' w' := ⟨m', hm'⟩
    have hs := Classical.choose_spec (hleast a' w' hh)
    have e : μ a' w' = Classical.choose (hleast a' w' hh) := by simp only [μ]; rw [dif_pos hh]
    rw [e]
    exact ⟨hs.1, hs.2 m' hm'⟩
  refine wp_loop (fun a' w' => ∃ m', I m' a' w') μ ⟨m, c, e, h, h0, hr, .refl, he, hn, rfl⟩ fun a1 w1 hI => ?_
  obtain ⟨m1, hI1⟩ := hI
  obtain ⟨⟨c1, e1, h1, hj, hr1, hx1, he1, hn1, hd1⟩, _⟩ := hμ a1 w1 m1 hI1
  obtain ⟨N, K, hN, hK, hawp⟩ := hJ _ e1 h1 hj
  have hb := awp_sound (n := n) hmix code b _ e1 h1 hord hc hawp c1 w1 a1 hr1 he1 hn1
  refine wp_mono hb fun ex a2 w2 hpost => ?_
  obtain ⟨c2, h2, e2, xx, hq, hr2, hx2, he2, hn2, hd2, hex⟩ := hpost
  cases ex with
  | normal =>
    cases xx <;> try exact hex.elim
    obtain ⟨e3, h3, hk3, hr3, he3, hx3⟩ := cutK_inv (ks := Env.keys e1) (k := K) hq hr2 he2 hx2 hN
    obtain ⟨m3, hlt, hj3⟩ := hK _ _ hk3
    simp only [Exit.then]
    have hI3 : I m3 a2 w2 := ⟨c2, e3, h3, hj3, hr3, hx1.trans hr hx3, he3, hn2, hd2.trans hd1⟩
    exact ⟨⟨m3, hI3⟩, Nat.lt_of_le_of_lt (hμ a2 w2 m3 hI3).2 hlt⟩
  | exit i => cases xx <;> first | exact hex.elim | exact ⟨c2, h2, e2, _, hq, hr2, hx1.trans hr hx2, he2, hn2, hd2.trans hd1, hex⟩
  | goto l => cases xx <;> exact hex.elim
  | ret => cases xx <;> first | exact hex.elim | exact ⟨c2, h2, e2, _, hq, hr2, hx1.trans hr hx2, he2, hn2, hd2.trans hd1, hex⟩
  | panic ch => cases xx <;> first | exact hex.elim | exact ⟨c2, h2, e2, _, hq, hr2, hx1.trans hr hx2, he2, hn2, hd2.trans hd1, hex⟩
  | outgrown => cases xx <;> exact hex.elim

/-- A loop, its slots and its memory at the head of a round told by a datum. -/
theorem loop_ind {P : Program} {b : ACode} {Q : AExit → Env → Heap → Prop} {σ : Type} (env : σ → Env) (hp : σ → Heap) (μ : σ → Nat)
    (step : ∀ s, awp P b (backQ (Env.keys (env s)) (hp s).nxt Q (fun e' h' => ∃ s', μ s' < μ s ∧ e' = env s' ∧ h' = hp s')) (env s) (hp s)) (s : σ) : ALoop P b Q (env s) (hp s) :=
  loop_ok (fun m e h => ∃ s, μ s = m ∧ e = env s ∧ h = hp s) (fun m e h ⟨s, hm, he, hh⟩ => by
    subst hm; subst he; subst hh
    have key : (fun e' h' => ∃ s', μ s' < μ s ∧ e' = env s' ∧ h' = hp s') = fun e' h' => ∃ m', m' < μ s ∧ ∃ s, μ s = m' ∧ e' = env s ∧ h' = hp s := by
      funext e' h'
      apply propext
      constructor
      · rintro ⟨s', hlt, he, hh⟩; exact ⟨_, hlt, s', rfl, he, hh⟩
      · rintro ⟨m', hlt, s', rfl, he, hh⟩; exact ⟨s', hlt, he, hh⟩
    rw [← key]
    exact step s) ⟨s, rfl, rfl, rfl⟩

/-- A loop whose first round makes what lives on. -/
theorem loop_two {P : Program} {b : ACode} {Q : AExit → Env → Heap → Prop} {σ : Type} (env : σ → Env) (hp : σ → Heap) (μ : σ → Nat) (M N : Nat) {e : Env} {h : Heap} (hN : h.nxt ≤ N)
    (first : awp P b (backQ (Env.keys e) N Q (fun e' h' => ∃ s, μ s < M ∧ e' = env s ∧ h' = hp s)) e h)
    (step : ∀ s, awp P b (backQ (Env.keys (env s)) (hp s).nxt Q (fun e' h' => ∃ s', μ s' < μ s ∧ e' = env s' ∧ h' = hp s')) (env s) (hp s)) : ALoop P b Q e h :=
  loop_okN (fun m e' h' => (m = M ∧ e' = e ∧ h' = h) ∨ ∃ s, μ s = m ∧ e' = env s ∧ h' = hp s) (fun m e' h' hj => by
    rcases hj with ⟨rfl, rfl, rfl⟩ | ⟨s, rfl, rfl, rfl⟩
    · exact ⟨N, _, hN, fun e' h' ⟨s, hs, he, hh⟩ => ⟨μ s, hs, .inr ⟨s, rfl, he, hh⟩⟩, first⟩
    · exact ⟨_, _, Nat.le_refl _, fun e' h' ⟨s', hs, he, hh⟩ => ⟨μ s', hs, .inr ⟨s', rfl, he, hh⟩⟩, step s⟩) (.inl ⟨rfl, rfl, rfl⟩)

/-- So many rounds at most, one behind the other. -/
structure ARound (P : Program) (b : ACode) (Q : AExit → Env → Heap → Prop) (m : Nat) (e : Env) (h : Heap) : Prop where
  run : ∀ n code, P.follows .mixedOrders = true → ordsOk b = true → erase b = cCode P n code → ∀ (c : Cx) (w : World) (a : Act), Rep c h w → ER c h w e a.tmps → a.tmps.size = n → Code.rounds P code (Post c h w Q n a.defers) m a w

theorem rounds_mono {P : Program} {code : Code} {Q Q' : Exit → Act → World → Prop} (hq : ∀ e a w, Q e a w → Q' e a w) : ∀ (m : Nat) {a : Act} {w : World}, Code.rounds P code Q m a w → Code.rounds P code Q' m a w
  | 0, _, _, h => h.elim
  | m+1, _, _, h => by
    rw [rounds_succ] at h ⊢
    refine wp_mono h fun ex a' w' hx => ?_
    cases ex <;> first | exact hq _ _ _ hx | exact rounds_mono hq m hx

theorem ARound.succ {P : Program} {b : ACode} {Q : AExit → Env → Heap → Prop} {m : Nat} {e : Env} {h : Heap} (hp : awp P b (backQ (Env.keys e) h.nxt Q (ARound P b Q m)) e h) : ARound P b Q (m + 1) e h := by
  refine ⟨fun n code hmix hord hc c w a hr he hn => ?_⟩
  rw [rounds_succ]
  refine wp_mono (awp_sound (n := n) hmix code b _ e h hord hc hp c w a hr he hn) fun ex a2 w2 hpost => ?_
  obtain ⟨c2, h2, e2, xx, hq, hr2, hx2, he2, hn2, hd2, hex⟩ := hpost
  cases ex with
  | normal =>
    cases xx <;> try exact hex.elim
    obtain ⟨e3, h3, hj3, hr3, he3, hx3⟩ := cutK_inv (ks := Env.keys e) (k := ARound P b Q m) hq hr2 he2 hx2 (Nat.le_refl _)
    simp only [Exit.then]
    have := hj3.run n code hmix hord hc c2 w2 a2 hr3 he3 hn2
    rw [hd2] at this
    exact rounds_mono (fun _ _ _ hp2 => hp2.of hr hx3) m this
  | exit i => cases xx <;> first | exact hex.elim | exact ⟨c2, h2, e2, _, hq, hr2, hx2, he2, hn2, hd2, hex⟩
  | goto l => cases xx <;> exact hex.elim
  | ret => cases xx <;> first | exact hex.elim | exact ⟨c2, h2, e2, _, hq, hr2, hx2, he2, hn2, hd2, hex⟩
  | panic ch => cases xx <;> first | exact hex.elim | exact ⟨c2, h2, e2, _, hq, hr2, hx2, he2, hn2, hd2, hex⟩
  | outgrown => cases xx <;> exact hex.elim

theorem loop_rounds {P : Program} {b : ACode} {Q : AExit → Env → Heap → Prop} (m : Nat) {e : Env} {h : Heap} (hp : ARound P b Q m e h) : ALoop P b Q e h :=
  ⟨fun n code hmix hord hc c w a hr he hn => wp_loop_rounds m (hp.run n code hmix hord hc c w a hr he hn)⟩

/-! Loops that make memory which lives on: the slots of the loop's head are kept, and all memory. -/
section
noncomputable section
def keepQ (ks : List Nat) (Q : AExit → Env → Heap → Prop) (I : Env → Heap → Prop) : AExit → Env → Heap → Prop
  | .normal, e, h => pickK ks e fun e' => I e' h
  | x, e, h => Q x e h
end
/-- Some of the named memory. -/
structure HSub (A' A : Heap) : Prop where
  nxt : A'.nxt = A.nxt
  sub : ∀ i o, A'.obj i = some o → A.obj i = some o
theorem HSub.refl (A : Heap) : HSub A A := ⟨rfl, fun _ _ h => h⟩
theorem VR.hsub {c : Cx} {A A' : Heap} {w : World} (hs : HSub A' A) {v : SV} {x : Value} (h : VR c A w v x) : VR c A' w v x := by
  induction h with
  | pure h => exact .pure h
  | ref i g idx sub x hx hi hg h => exact .ref _ _ _ _ _ hx (by rw [hs.nxt]; exact hi) (fun o ho => hg o (hs.sub i o ho)) fun o ho => h o (hs.sub i o ho)
  | sl i g sz off len cap x hx hi hg h => exact .sl _ _ _ _ _ _ _ hx (by rw [hs.nxt]; exact hi) (fun o ho => hg o (hs.sub i o ho)) fun o ho => h o (hs.sub i o ho)
  | iface t v x _ ih => exact .iface _ _ _ ih
  | agg l cs hl _ ih => exact .agg _ _ hl ih
  | tup l cs hl _ ih => exact .tup _ _ hl ih
  | func fn a b a' b' ha hb _ _ ih ih' => exact .func _ _ _ _ _ ha hb ih ih'
theorem Rep.hsub {c : Cx} {A A' : Heap} {w : World} (hs : HSub A' A) (hr : Rep c A w) : Rep c A' w := by
  refine ⟨fun i o ho => by rw [hs.nxt]; exact hr.lt i o (hs.sub i o ho), fun i o ho => ?_, fun i j o p ho hp he => hr.inj i j o p (hs.sub i o ho) (hs.sub j p hp) he, fun i o ho => hr.apart i o (hs.sub i o ho), hr.im, hr.glob⟩
  cases hr.obj i o (hs.sub i o ho) with
  | vec g sz elems sk C ty fz hw hle heq hty hc hf hcell => exact .vec g sz elems sk C ty fz hw hle heq hty hc hf fun i j e v x a b d => (hcell i j e v x a b d).hsub hs
  | iter s pos hw => exact .iter s pos hw
theorem Ext.hsub {c : Cx} {A A' : Heap} {w : World} (hs : HSub A' A) : Ext c A w c A' w :=
  ⟨rfl, rfl, rfl, Nat.le_refl _, fun _ _ _ => rfl, fun _ _ => rfl, fun _ h => h, fun _ h => .inl h, Nat.le_of_eq hs.nxt.symm, fun i o' _ h => ⟨o', hs.sub i o' h, Nat.le_refl _, rfl, fun _ => rfl⟩, fun i o' h => .inr ⟨o', hs.sub i o' h, rfl⟩⟩

theorem keep_inv {ks : List Nat} {e : Env} {h : Heap} {I : Env → Heap → Prop} (hp : pickK ks e fun e' => I e' h) {c : Cx} {w : World} {tmps : Array Value} (he : ER c h w e tmps) : ∃ e', I e' h ∧ ER c h w e' tmps := by
  obtain ⟨e', h1, h2⟩ := pickK_inv hp
  refine ⟨e', h1, fun t => ?_⟩
  rcases h2 t with h3 | h3 <;> rw [h3]
  · exact .undef
  · exact he t

theorem loop_full {P : Program} {b : ACode} {Q : AExit → Env → Heap → Prop} {σ : Type} (env : σ → Env) (hp : σ → Heap) (μ : σ → Nat)
    (step : ∀ s, awp P b (keepQ (Env.keys (env s)) Q (fun e' h' => ∃ s', μ s' < μ s ∧ e' = env s' ∧ HSub (hp s') h')) (env s) (hp s)) (s : σ) {h : Heap} (h0 : HSub (hp s) h) : ALoop P b Q (env s) h := by
  refine ⟨fun n code hmix hord hc c w a hr he hn => ?_⟩
  let I : σ → Act → World → Prop := fun s' a' w' => ∃ c', Rep c' (hp s') w' ∧ Ext c h w c' (hp s') w' ∧ ER c' (hp s') w' (env s') a'.tmps ∧ a'.tmps.size = n ∧ a'.defers = a.defers
  have hleast : ∀ a' w', (∃ s', I s' a' w') → ∃ s', I s' a' w' ∧ ∀ s'', I s'' a' w' → μ s' ≤ μ s'' := by
    intro a' w' ⟨s', hs'⟩
    refine Classical.byContradiction fun hno => ?_
    have : ∀ k, ∀ s'', μ s'' ≤ k → ¬ I s'' a' w' := by
      intro k
      induction k with
      | zero => intro s'' hk hI; exact hno ⟨s'', hI, fun s3 _ => by omega⟩
      | succ k ih =>
        intro s'' hk hI
        refine hno ⟨s'', hI, fun s3 h3 => ?_⟩
        rcases Nat.lt_or_ge k (μ s3) with h | h
        · omega
        · exact absurd h3 (ih s3 h)
    exact this (μ s') s' (Nat.le_refl _) hs'
  classical
  let ν : Act → World → Nat := fun a' w' => if hh : ∃ s', I s' a' w' then μ (Classical.choose (hleast a' w' hh)) else 0
  have hν : ∀ a' w' s', I s' a' w' → ∃ s'', I s'' a' w' ∧ μ s'' = ν a' w' ∧ ν a' w' ≤ μ s' := by
    intro a' w' s' hs'
    have hh : ∃ s', I s' a' w' := ⟨s', hs'⟩
    have hs := Classical.choose_spec (hleast a' w' hh)
    have e : ν a' w' = μ (Classical.choose (hleast a' w' hh)) := by simp only [ν]; rw [dif_pos hh]
    exact ⟨_, hs.1, e.symm, by rw [e]; exact hs.2 s' hs'⟩
  refine wp_loop (fun a' w' => ∃ s', I s' a' w') ν ⟨s, c, hr.hsub h0, .hsub h0, fun t => (he t).hsub h0, hn, rfl⟩ fun a1 w1 hI => ?_
  obtain ⟨s0, hI0⟩ := hI
  obtain ⟨s1, ⟨c1, hr1, hx1, he1, hn1, hd1⟩, hν1, _⟩ := hν a1 w1 s0 hI0
  have hb := awp_sound (n := n) hmix code b _ _ _ hord hc (step s1) c1 w1 a1 hr1 he1 hn1
  refine wp_mono hb fun ex a2 w2 hpost => ?_
  obtain ⟨c2, h2, e2, xx, hq, hr2, hx2, he2, hn2, hd2, hex⟩ := hpost
  cases ex with
  | normal =>
    cases xx <;> try exact hex.elim
    obtain ⟨e3, ⟨s3, hlt, rfl, hs3⟩, he3⟩ := keep_inv (I := fun e' h' => ∃ s', μ s' < μ s1 ∧ e' = env s' ∧ HSub (hp s') h') hq he2
    simp only [Exit.then]
    have hI3 : I s3 a2 w2 := ⟨c2, hr2.hsub hs3, (hx1.trans hr hx2).trans hr (.hsub hs3), fun t => (he3 t).hsub hs3, hn2, hd2.trans hd1⟩
    obtain ⟨s4, _, hν4, hle4⟩ := hν a2 w2 s3 hI3
    exact ⟨⟨s3, hI3⟩, by omega⟩
  | exit i => cases xx <;> first | exact hex.elim | exact ⟨c2, h2, e2, _, hq, hr2, hx1.trans hr hx2, he2, hn2, hd2.trans hd1, hex⟩
  | goto l => cases xx <;> exact hex.elim
  | ret => cases xx <;> first | exact hex.elim | exact ⟨c2, h2, e2, _, hq, hr2, hx1.trans hr hx2, he2, hn2, hd2.trans hd1, hex⟩
  | panic ch => cases xx <;> first | exact hex.elim | exact ⟨c2, h2, e2, _, hq, hr2, hx1.trans hr hx2, he2, hn2, hd2.trans hd1, hex⟩
  | outgrown => cases xx <;> exact hex.elim

/-- A round behind which all memory lives on. -/
theorem ARound.full {P : Program} {b : ACode} {Q : AExit → Env → Heap → Prop} {m : Nat} {e : Env} {h : Heap} (hp : awp P b (keepQ (Env.keys e) Q (ARound P b Q m)) e h) : ARound P b Q (m + 1) e h := by
  refine ⟨fun n code hmix hord hc c w a hr he hn => ?_⟩
  rw [rounds_succ]
  refine wp_mono (awp_sound (n := n) hmix code b _ e h hord hc hp c w a hr he hn) fun ex a2 w2 hpost => ?_
  obtain ⟨c2, h2, e2, xx, hq, hr2, hx2, he2, hn2, hd2, hex⟩ := hpost
  cases ex with
  | normal =>
    cases xx <;> try exact hex.elim
    obtain ⟨e3, hj3, he3⟩ := keep_inv (I := ARound P b Q m) hq he2
    simp only [Exit.then]
    have := hj3.run n code hmix hord hc c2 w2 a2 hr2 he3 hn2
    rw [hd2] at this
    exact rounds_mono (fun _ _ _ hp2 => hp2.of hr hx2) m this
  | exit i => cases xx <;> first | exact hex.elim | exact ⟨c2, h2, e2, _, hq, hr2, hx2, he2, hn2, hd2, hex⟩
  | goto l => cases xx <;> exact hex.elim
  | ret => cases xx <;> first | exact hex.elim | exact ⟨c2, h2, e2, _, hq, hr2, hx2, he2, hn2, hd2, hex⟩
  | panic ch => cases xx <;> first | exact hex.elim | exact ⟨c2, h2, e2, _, hq, hr2, hx2, he2, hn2, hd2, hex⟩
  | outgrown => cases xx <;> exact hex.elim
end

/-! ## Functions -/
inductive RV where
  | tmp (t : Nat)
  | cellS (t : Nat)
  | cellA (t n : Nat)
def cRes (P : Program) : List ResultVar → Option (List RV)
  | [] => some []
  | .tmp t :: r => (cRes P r).map (.tmp t :: ·)
  | .cell t ty :: r => match isAggT P ty, P.info? ty with
    | some true, some i => (cRes P r).map (.cellA t i.size :: ·)
    | some false, _ => (cRes P r).map (.cellS t :: ·)
    | _, _ => none
noncomputable section
def resK : List RV → Env → Heap → (List SV → Prop) → Prop
  | [], _, _, k => k []
  | .tmp t :: r, e, h, k => Env.getK e t fun v => resK r e h fun vs => k (v :: vs)
  | .cellS t :: r, e, h, k => Env.getK e t fun p => readP h p fun cs sub => match getL cs sub with
    | some v => resK r e h fun vs => k (v :: vs)
    | none => False
  | .cellA t n :: r, e, h, k => Env.getK e t fun p => readP h p fun cs sub => dropN cs sub fun cs => takeN cs n fun l => resK r e h fun vs => k (.agg l :: vs)
def finQ (rs : List RV) (R : AEnd → Heap → Prop) : AExit → Env → Heap → Prop
  | .normal, e, h | .ret, e, h => resK rs e h fun vs => match vs with
    | [v] => R (.ret v) h
    | vs => R (.ret (.tup vs)) h
  | .panic v, _, h => R (.pan v) h
  | .exit _, _, _ => False
def argEnv : Nat → List SV → Env
  | _, [] => []
  | i, v :: r => (i, v) :: argEnv (i + 1) r
end

theorem resK_run {P : Program} {c : Cx} {h : Heap} {w : World} {e : Env} {tmps : Array Value} (hr : Rep c h w) (he : ER c h w e tmps) : ∀ (vars : List ResultVar) (rs : List RV) (k : List SV → Prop), cRes P vars = some rs → resK rs e h k →
    ∃ vs xs, k vs ∧ (vars.mapM fun v => (match v with | .tmp t => pure (tmps.getD t undef) | .cell a t => do loadVar t (← asAddr (tmps.getD a undef)) : Sem Value)).run P w = .ok xs w ∧ xs.length = vs.length ∧
      ∀ (i : Nat) (v : SV) (x : Value), vs[i]? = some v → xs[i]? = some x → VR c h w v x
  | [], rs, k, hc, hp => by
    simp only [cRes, Option.some.injEq] at hc
    subst hc
    exact ⟨[], [], hp, by simp, rfl, fun i v x hv => by simp at hv⟩
  | .tmp t :: r, rs, k, hc, hp => by
    simp only [cRes, Option.map_eq_some_iff] at hc
    obtain ⟨rs', hc, rfl⟩ := hc
    simp only [resK, getK_eq] at hp
    obtain ⟨vs, xs, hk, hrun, hl, hv⟩ := resK_run hr he r rs' _ hc hp
    refine ⟨_, tmps.getD t undef :: xs, hk, ?_, by simp [hl], fun i v x h1 h2 => ?_⟩
    · rw [List.mapM_cons]
      simp only [Sem.run_bind, Sem.run_pure, Result.andThen_ok, hrun]
    · cases i with
      | zero => simp at h1 h2; subst h1; rw [← h2]; simpa using he t
      | succ i => exact hv i v x (by simpa using h1) (by simpa using h2)
  | .cell t ty :: r, rs, k, hc, hp => by
    simp only [cRes] at hc
    split at hc
    · rename_i i hag hi
      obtain ⟨rs', hc', rfl⟩ := Option.map_eq_some_iff.1 hc
      simp only [resK, getK_eq] at hp
      obtain ⟨cs, sub, b, base, C, tyy, fz, hk, hx, hw, hle, hcc⟩ := readP_inv hr (he t) hp
      obtain ⟨h1, hk⟩ := dropN_iff.1 hk
      obtain ⟨h2, hk⟩ := takeN_iff.1 hk
      simp only [List.length_drop] at h2
      obtain ⟨vs, xs, hk, hrun, hl, hv⟩ := resK_run hr he r rs' _ hc' hk
      let l := (C.toList.drop (base + sub)).take i.size
      have hll : l.length = i.size := by simp [l]; omega
      have hload := run_loadCells_list (P := P) w ⟨b, base + sub, none⟩ l (fun j v hv => by
        rw [add_eq]
        simp only [World.cell?, hw, Option.isSome_none]
        simp only [l, List.getElem?_take, List.getElem?_drop] at hv
        split at hv
        · simpa using hv
        · cases hv)
      rw [hll] at hload
      refine ⟨_, .agg l.toArray :: xs, hk, ?_, by simp [hl], fun j v x q1 q2 => ?_⟩
      · rw [List.mapM_cons, Sem.run_bind]
        have hhead : (do loadVar ty (← asAddr (tmps.getD t undef)) : Sem Value).run P w = .ok (.agg l.toArray) w := by
          simp only [Sem.run_bind, hx, asAddr, Sem.run_pure, Result.andThen_ok, loadVar, isAgg_run hag, if_true, sizeOf_run hi, hload]
        refine (congrArg (fun r => Result.andThen r _) hhead).trans ?_
        simp only [Result.andThen_ok, Sem.run_bind, hrun, Sem.run_pure]
      · cases j with
        | zero =>
          simp at q1 q2
          subst q1; subst q2
          refine .agg _ _ (by simp [l]; omega) fun j v y hv hy => ?_
          simp only [List.getElem?_take, List.getElem?_drop] at hv
          simp only [l, List.getElem?_toArray, List.getElem?_take, List.getElem?_drop] at hy
          split at hv
          · rw [if_pos ‹_›] at hy
            exact hcc (sub + j) v y hv (by simpa [Nat.add_assoc] using hy)
          · cases hv
        | succ j => exact hv j v x (by simpa using q1) (by simpa using q2)
    · rename_i hag
      obtain ⟨rs', hc', rfl⟩ := Option.map_eq_some_iff.1 hc
      simp only [resK, getK_eq] at hp
      obtain ⟨cs, sub, b, base, C, tyy, fz, hk, hx, hw, hle, hcc⟩ := readP_inv hr (he t) hp
      rw [getL_eq] at hk
      split at hk
      · rename_i v0 hv0
        have hlt : sub < cs.length := by
          rcases Nat.lt_or_ge sub cs.length with h | h
          · exact h
          · rw [List.getElem?_eq_none h] at hv0; cases hv0
        have hy : C[base + sub]? = some C[base + sub] := Array.getElem?_eq_getElem (by omega)
        obtain ⟨vs, xs, hk, hrun, hl, hv⟩ := resK_run hr he r rs' _ hc' hk
        refine ⟨_, C[base + sub] :: xs, hk, ?_, by simp [hl], fun j v x q1 q2 => ?_⟩
        · rw [List.mapM_cons, Sem.run_bind]
          have hcell : w.cell? ⟨b, base + sub, none⟩ = some C[base + sub] := by simp [World.cell?, hw, hy]
          have hhead : (do loadVar ty (← asAddr (tmps.getD t undef)) : Sem Value).run P w = .ok C[base + sub] w := by
            simp only [Sem.run_bind, hx, asAddr, Sem.run_pure, Result.andThen_ok, loadVar, isAgg_run hag, Bool.false_eq_true, if_false, run_load, hcell]
          refine (congrArg (fun r => Result.andThen r _) hhead).trans ?_
          simp only [Result.andThen_ok, Sem.run_bind, hrun, Sem.run_pure]
        · cases j with
          | zero => simp at q1 q2; subst q1; subst q2; exact hcc sub _ _ hv0 hy
          | succ j => exact hv j v x (by simpa using q1) (by simpa using q2)
      · exact hk.elim
    · cases hc

theorem results_run {P : Program} {fn : Func} {c : Cx} {h : Heap} {w : World} {e : Env} {tmps : Array Value} (hr : Rep c h w) (he : ER c h w e tmps) {rs : List RV} {R : AEnd → Heap → Prop} (hc : cRes P fn.results.toList = some rs)
    (hp : resK rs e h fun vs => match vs with | [v] => R (.ret v) h | vs => R (.ret (.tup vs)) h) : ∃ v x, R (.ret v) h ∧ (results fn tmps).run P w = .ok x w ∧ VR c h w v x := by
  obtain ⟨vs, xs, hk, hrun, hl, hv⟩ := resK_run hr he fn.results.toList rs _ hc hp
  have hres : (results fn tmps).run P w = .ok (if hh : xs.toArray.size = 1 then xs.toArray[0] else .tuple xs.toArray) w := by
    unfold results
    rw [Sem.run_bind, Array.mapM_eq_mapM_toList, Sem.run_map]
    exact congrArg (fun r => Result.andThen (Result.andThen r _) _) hrun
  rw [hres]
  split at hk
  · rename_i v
    obtain ⟨x, rfl⟩ : ∃ x, xs = [x] := List.length_eq_one_iff.1 (by simpa using hl)
    exact ⟨v, x, hk, by simp, hv 0 v x rfl rfl⟩
  · rename_i hne
    refine ⟨_, _, hk, rfl, ?_⟩
    rw [dif_neg (fun hh => ?_)]
    · exact .tup _ _ (by simp [hl]) fun i v x h1 h2 => hv i v x h1 (by simpa using h2)
    · have : vs.length = 1 := by rw [← hl]; simpa using hh
      obtain ⟨v, rfl⟩ := List.length_eq_one_iff.1 this
      exact hne v rfl

theorem argEnv_get : ∀ (l : List SV) (i t : Nat), Env.get (argEnv i l) t = if i ≤ t then l.getD (t - i) .undef else .undef
  | [], i, t => by simp [argEnv, Env.get]
  | v :: r, i, t => by
    unfold argEnv Env.get
    rcases beq_cases i t with ⟨h, h'⟩ | ⟨h, h'⟩ <;> rw [h]
    · subst h'; simp
    · simp only [cond_false]
      rw [argEnv_get r (i + 1) t]
      by_cases hle : i ≤ t
      · rw [if_pos hle, if_pos (by omega)]
        have : t - i = (t - (i + 1)) + 1 := by omega
        rw [this]
        simp
      · rw [if_neg hle, if_neg (by omega)]

/-- A function's contract, by the symbolic run of its code. -/
theorem acall_of_awpC {P : Program} {Γ : CallR} {Λ : LoopR} (hΓ : Γ.Ok P) (hΛ : ∀ b Q e h, Λ b Q e h → ALoop P b Q e h) {f : FuncId} {fn : Func} {code : Code} {ac : ACode} {rs : List RV} {args : List SV} {h : Heap} {R : AEnd → Heap → Prop} (hm : P.follows .mixedOrders = true) (hf : P.funcs[f]? = some fn) (hb : fn.body = some code)
    (ho : ordsOk ac = true) (hc : erase ac = cCode P fn.ntmps code) (hrs : cRes P fn.results.toList = some rs) (hn : Nat.ble args.length fn.ntmps = true) (hp : awpC P Γ Λ ac (finQ rs R) (argEnv 0 args) h) : ACall P f args h R := by
  refine ⟨fun c w xs hr hs hv => ?_⟩
  have hn := Nat.le_of_ble_eq_true hn
  refine calls_of_wp hf hb (wp_mono (awpC_sound (n := fn.ntmps) hΓ hΛ hm code ac _ _ h ho hc hp c w { tmps := xs ++ Array.replicate (fn.ntmps - xs.size) undef, defers := [] } hr (fun t => ?_) (by simp; omega)) fun ex a' w' hpost => ?_)
  · rw [argEnv_get, if_pos (Nat.zero_le _), Nat.sub_zero]
    by_cases ht : t < args.length
    · have h1 : args[t]? = some args[t] := List.getElem?_eq_getElem ht
      have h2 : xs[t]? = some xs[t] := Array.getElem?_eq_getElem (by omega)
      have := hv t _ _ h1 h2
      have e1 : args.getD t .undef = args[t] := by simp [List.getD, h1]
      have e2 : (xs ++ Array.replicate (fn.ntmps - xs.size) undef).getD t undef = xs[t] := by
        rw [Array.getD_eq_getD_getElem?, Array.getElem?_append_left (by omega), h2]; rfl
      rw [e1, e2]
      exact this
    · have e1 : args.getD t .undef = .undef := by simp [List.getD, List.getElem?_eq_none (Nat.le_of_not_lt ht)]
      rw [e1]
      exact .undef
  · obtain ⟨c', h', e', xx, hq, hr', hx', he', hn', hd', hex⟩ := hpost
    have fin : (resK rs e' h' fun vs => match vs with | [v] => R (.ret v) h' | vs => R (.ret (.tup vs)) h') → a'.defers = [] ∧ ∃ v, (results fn a'.tmps).run P w' = .ok v w' ∧ ∃ c' h' r, R r h' ∧ Rep c' h' w' ∧ Ext c h w c' h' w' ∧ match r with
      | .ret u => ∃ x, Ending.returned v = .returned x ∧ VR c' h' w' u x
      | .pan u => ∃ x, Ending.returned v = .panicked [{ v := x, recovered := false }] ∧ VR c' h' w' u x := fun hq => by
      obtain ⟨v, x, hR, hrun, hvx⟩ := results_run (P := P) (fn := fn) hr' he' hrs hq
      exact ⟨hd', x, hrun, c', h', .ret v, hR, hr', hx', x, rfl, hvx⟩
    cases ex with
    | normal => cases xx <;> first | exact hex.elim | exact fin hq
    | exit i => cases xx <;> first | exact hex.elim | exact hq.elim
    | goto l => cases xx <;> exact hex.elim
    | ret => cases xx <;> first | exact hex.elim | exact fin hq
    | panic ch =>
      cases xx <;> try exact hex.elim
      obtain ⟨x, rfl, hvx⟩ := hex
      exact ⟨hd', c', h', .pan _, hq, hr', hx', x, rfl, hvx⟩
    | outgrown => cases xx <;> exact hex.elim

/-- A function's contract, by the symbolic run of its code. -/
theorem acall_of_awp {P : Program} {f : FuncId} {fn : Func} {code : Code} {ac : ACode} {rs : List RV} {args : List SV} {h : Heap} {R : AEnd → Heap → Prop} (hm : P.follows .mixedOrders = true) (hf : P.funcs[f]? = some fn) (hb : fn.body = some code)
    (ho : ordsOk ac = true) (hc : erase ac = cCode P fn.ntmps code) (hrs : cRes P fn.results.toList = some rs) (hn : Nat.ble args.length fn.ntmps = true) (hp : awp P ac (finQ rs R) (argEnv 0 args) h) : ACall P f args h R :=
  acall_of_awpC (Γ := aCall P) (Λ := ALoop P) aCall_ok (fun _ _ _ _ h => h) hm hf hb ho hc hrs hn hp

theorem ACall.mono {P : Program} {f : FuncId} {args : List SV} {h : Heap} {R R' : AEnd → Heap → Prop} (hc : ACall P f args h R) (hR : ∀ r h', R r h' → R' r h') : ACall P f args h R' :=
  ⟨fun c w xs hr hs hv => (hc.calls c w xs hr hs hv).mono fun _ _ ⟨c', h', r, hk, rest⟩ => ⟨c', h', r, hR r h' hk, rest⟩⟩
end Ab
namespace Ab
set_option linter.unusedVariables false
set_option linter.unusedSimpArgs false
open Go

/-- A value that speaks of no name. -/
inductive LitV : SV → Prop
  | undef : LitV .undef
  | bool (b : Bool) : LitV (.bool b)
  | int (k : IntKind) (n : Int) : LitV (.int k n)
  | str (s : List UInt8) : LitV (.str s)
  | nilp : LitV .nilp
  | ipt (v : SV) (sub : Nat) : LitV (.ipt v sub)
  | glob (g : Nat) : LitV (.glob g)
  | nils : LitV .nils
  | lst (sz n : Nat) (get : Nat → SV) : LitV (.lst sz n get)
  | nilf : LitV .nilf
  | nili : LitV .nili
  | iface (t : TypeId) {v : SV} (h : LitV v) : LitV (.iface t v)
  | agg {l : List SV} (h : ∀ v ∈ l, LitV v) : LitV (.agg l)
  | tup {l : List SV} (h : ∀ v ∈ l, LitV v) : LitV (.tup l)
  | func (fn : Fn) {a b : List SV} (h : ∀ v ∈ a, LitV v) (h' : ∀ v ∈ b, LitV v) : LitV (.func fn a b)

theorem LitV.vp {v : SV} (hl : LitV v) : ∀ {c : Cx} {h : Heap} {w : World} {x : Value}, VR c h w v x → VP c.Im w v x := by
  induction hl with
  | iface t _ ih => intro c h w x hv; obtain ⟨y, rfl, hy⟩ := hv.iface_inv; exact .iface _ _ _ (ih hy)
  | agg _ ih => intro c h w x hv; obtain ⟨cs, rfl, h1, h2⟩ := hv.agg_inv; exact .agg _ _ h1 fun i v x a b => ih v (List.mem_of_getElem? a) (h2 i v x a b)
  | tup _ ih => intro c h w x hv; obtain ⟨cs, rfl, h1, h2⟩ := hv.tup_inv; exact .tup _ _ h1 fun i v x a b => ih v (List.mem_of_getElem? a) (h2 i v x a b)
  | func fn _ _ ih ih' => intro c h w x hv; obtain ⟨a', b', rfl, h1, h2, h3, h4⟩ := hv.func_inv; exact .func _ _ _ _ _ h1 h2 (fun i v x a b => ih v (List.mem_of_getElem? a) (h3 i v x a b)) fun i v x a b => ih' v (List.mem_of_getElem? a) (h4 i v x a b)
  | _ => intro c h w x hv; cases hv with | pure hv => exact hv

/-- What a value comes to, if the blocks that it speaks of are written no more. -/
inductive Hard (A : Heap) : SV → SV → Prop
  | lit {v : SV} (h : LitV v) : Hard A v v
  | iface (t : TypeId) {v v' : SV} (h : Hard A v v') : Hard A (.iface t v) (.iface t v')
  | agg {l l' : List SV} (hl : l.length = l'.length) (h : ∀ (i : Nat) (v v' : SV), l[i]? = some v → l'[i]? = some v' → Hard A v v') : Hard A (.agg l) (.agg l')
  | tup {l l' : List SV} (hl : l.length = l'.length) (h : ∀ (i : Nat) (v v' : SV), l[i]? = some v → l'[i]? = some v' → Hard A v v') : Hard A (.tup l) (.tup l')
  | sl {i g sz off len : Nat} {cap : Option Nat} {elems : List SV} {sk : Sk} {get : Nat → SV} (ho : A.obj i = some (.vec g sz elems sk)) (hle : off + len ≤ elems.length)
      (h : ∀ (j : Nat) (v : SV), j < len → elems[off + j]? = some v → Hard A v (get j)) : Hard A (.sl i g sz off len cap) (.lst sz len get)
  | same {sz n : Nat} {get get' : Nat → SV} (h : ∀ j, j < n → get j = get' j) : Hard A (.lst sz n get) (.lst sz n get')
  | ref {i g idx sub sz : Nat} {elems : List SV} {sk : Sk} {v v' : SV} (ho : A.obj i = some (.vec g sz elems sk)) (hi : elems[idx]? = some v) (h : Hard A v v') : Hard A (.ref i g idx sub) (.ipt v' sub)

theorem Hard.cells {A : Heap} {v v' : SV} (h : Hard A v v') : v'.cells.length = v.cells.length ∧ ∀ (j : Nat) (u u' : SV), v.cells[j]? = some u → v'.cells[j]? = some u' → Hard A u u' := by
  have one : ∀ {v v' : SV}, Hard A v v' → v.cells = [v] → v'.cells = [v'] → v'.cells.length = v.cells.length ∧ ∀ (j : Nat) (u u' : SV), v.cells[j]? = some u → v'.cells[j]? = some u' → Hard A u u' := by
    intro v v' h h1 h2
    rw [h1, h2]
    refine ⟨rfl, fun j u u' hu hu' => ?_⟩
    cases j with
    | zero => simp at hu hu'; subst hu; subst hu'; exact h
    | succ j => simp at hu
  cases h with
  | lit hl =>
    refine ⟨rfl, fun j u u' hu hu' => ?_⟩
    rw [hu] at hu'; cases hu'
    cases hl with
    | agg hh => exact .lit (hh u (List.mem_of_getElem? hu))
    | _ => cases j with
      | zero => simp only [SV.cells, List.getElem?_cons_zero, Option.some.injEq] at hu; subst hu; exact .lit (by constructor <;> assumption)
      | succ j => simp [SV.cells] at hu
  | iface t h => exact one (.iface t h) rfl rfl
  | agg hl h => exact ⟨hl.symm, h⟩
  | tup hl h => exact one (.tup hl h) rfl rfl
  | sl ho hle h => exact one (.sl ho hle h) rfl rfl
  | same h => exact one (.same h) rfl rfl
  | ref ho hi h => exact one (.ref ho hi h) rfl rfl

theorem elem_vp {A : Heap} {c : Cx} {w : World} {Im : Nat → Prop} {v v' : SV} {C : Array Value} {base : Nat} (hh : Hard A v v') (ih : ∀ {x : Value}, VR c A w v x → VP Im w v' x)
    (hcell : ∀ (p : Nat) (u : SV) (y : Value), v.cells[p]? = some u → C[base + p]? = some y → VR c A w u y) (hs : base + v.cells.length ≤ C.size) {p : Nat} {u : SV} {y : Value} (hu : v'.cells[p]? = some u) (hy : C[base + p]? = some y) : VP Im w u y := by
  by_cases hagg : ∃ l, v = .agg l
  · obtain ⟨l, rfl⟩ := hagg
    have hp : p < l.length := by
      have : v'.cells.length = l.length := hh.cells.1
      rcases Nat.lt_or_ge p l.length with h | h
      · exact h
      · rw [List.getElem?_eq_none (by omega)] at hu; cases hu
    refine VP.cells (ih (x := .agg (C.extract base (base + l.length))) (.agg _ _ ?_ fun i v x a b => ?_)) hu ?_
    · simp only [SV.cells] at hs
      simp; omega
    · have hi : i < l.length := by
        rcases Nat.lt_or_ge i l.length with h | h
        · exact h
        · rw [List.getElem?_eq_none h] at a; cases a
      rw [Array.getElem?_extract] at b
      split at b
      · exact hcell i v x a b
      · cases b
    · simp only [Value.cells, Array.getElem?_extract]
      simp only [SV.cells] at hs
      rw [if_pos (by omega)]
      exact hy
  · have h1 : v.cells = [v] := by cases v <;> first | rfl | exact absurd ⟨_, rfl⟩ hagg
    have hp : p = 0 := by
      have := hh.cells.1
      rw [h1] at this
      rcases Nat.eq_zero_or_pos p with h | h
      · exact h
      · rw [List.getElem?_eq_none (by simp at this; omega)] at hu; cases hu
    subst hp
    have hv := hcell 0 v y (by rw [h1]; rfl) hy
    by_cases hun : v = .undef
    · subst hun
      cases hh with
      | lit hl => simp only [SV.cells, List.getElem?_cons_zero, Option.some.injEq] at hu; subst hu; exact .undef _
    · refine VP.cells (ih hv) hu ?_
      rw [hv.noAgg hun (fun l hl => hagg ⟨l, hl⟩)]
      rfl

theorem Hard.vp {A : Heap} {c : Cx} {w : World} (hr : Rep c A w) {Im : Nat → Prop} (hI : ∀ b, c.Im b → Im b) (hB : ∀ i o, A.obj i = some o → Im (c.β i)) {v v' : SV} (hh : Hard A v v') : ∀ {x : Value}, VR c A w v x → VP Im w v' x := by
  induction hh with
  | lit h => intro x hv; exact (h.vp hv).mono hI (fun _ _ => rfl)
  | iface t _ ih => intro x hv; obtain ⟨y, rfl, hy⟩ := hv.iface_inv; exact .iface _ _ _ (ih hy)
  | agg hl _ ih =>
    rename_i l l' _
    intro x hv
    obtain ⟨cs, rfl, h1, h2⟩ := hv.agg_inv
    refine .agg _ _ (h1.trans hl) fun i v x a b => ?_
    have hi : i < l.length := by
      rw [hl]
      rcases Nat.lt_or_ge i l'.length with h | h
      · exact h
      · rw [List.getElem?_eq_none h] at a; cases a
    exact ih i _ v (List.getElem?_eq_getElem hi) a (h2 i _ x (List.getElem?_eq_getElem hi) b)
  | tup hl _ ih =>
    rename_i l l' _
    intro x hv
    obtain ⟨cs, rfl, h1, h2⟩ := hv.tup_inv
    refine .tup _ _ (h1.trans hl) fun i v x a b => ?_
    have hi : i < l.length := by
      rw [hl]
      rcases Nat.lt_or_ge i l'.length with h | h
      · exact h
      · rw [List.getElem?_eq_none h] at a; cases a
    exact ih i _ v (List.getElem?_eq_getElem hi) a (h2 i _ x (List.getElem?_eq_getElem hi) b)
  | sl ho hle hhard ih =>
    rename_i i g sz off len cap elems sk get
    intro x hv
    obtain ⟨_, ad, cc, rfl, hlc, _, hor⟩ := hv.sl_inv ho rfl
    by_cases hz : len = 0
    · subst hz; exact .lst0 _ _ _ _
    · rcases hor with h0 | ⟨rfl, ty, n, hsh, hle2⟩
      · omega
      · cases hr.obj i _ ho with
        | vec _ _ _ _ C ty fz hw hle3 heq hty hc hf hcell =>
          have hel : ∀ j, j < len → ∃ v, elems[off + j]? = some v ∧ v.cells.length = sz ∧ (get j).cells.length = sz := fun j hj => by
            have hv : elems[off + j]? = some elems[off + j] := List.getElem?_eq_getElem (by omega)
            have h1 := hc _ (List.mem_of_getElem? hv)
            exact ⟨_, hv, h1, by rw [(hhard j _ hj hv).cells.1]; exact h1⟩
          refine .lst sz len get _ (off * sz) cc C ty fz (hB i _ ho) hw ?_ hlc (fun j hj => (hel j hj).choose_spec.2.2) fun j p u y hj hu hy => ?_
          · have : (off + len) * sz ≤ elems.length * sz := Nat.mul_le_mul_right _ hle
            rw [Nat.add_mul] at this
            omega
          · obtain ⟨v, hve, hvl, hgl⟩ := hel j hj
            have hle4 : (off + j + 1) * sz ≤ elems.length * sz := Nat.mul_le_mul_right _ (by omega)
            rw [Nat.succ_mul, Nat.add_mul] at hle4
            refine elem_vp (base := off * sz + j * sz) (hhard j v hj hve) (ih j v hj hve) (fun p' u' y' hu' hy' => hcell (off + j) p' v u' y' hve hu' (by rw [Nat.add_mul]; exact hy')) (by rw [hvl]; omega) hu hy
  | same hsame =>
    rename_i sz n get get'
    intro x hv
    cases hv with
    | pure hp =>
      cases hp with
      | lst0 => exact .lst0 _ _ _ _
      | lst _ _ _ b off cap C ty fz hb hw hn hcap hc h =>
        exact .lst sz n get' b off cap C ty fz (hI b hb) hw hn hcap (fun i hi => by rw [← hsame i hi]; exact hc i hi) fun i j v x hi hv hx => (h i j v x hi (by rw [hsame i hi]; exact hv) hx).mono hI fun _ _ => rfl
  | ref ho hi hhard ih =>
    rename_i i g idx sub sz elems sk v v'
    intro x hv
    have hx := hv.ref_inv ho rfl
    subst hx
    cases hr.obj i _ ho with
    | vec _ _ _ _ C ty fz hw hle heq hty hc hf hcell =>
      have hvl := hc _ (List.mem_of_getElem? hi)
      have hidx : idx < elems.length := by
        rcases Nat.lt_or_ge idx elems.length with h | h
        · exact h
        · rw [List.getElem?_eq_none h] at hi; cases hi
      have hle4 : (idx + 1) * sz ≤ elems.length * sz := Nat.mul_le_mul_right _ hidx
      rw [Nat.succ_mul] at hle4
      refine .ipt v' sub _ (idx * sz) C ty fz (hB i _ ho) hw (by rw [hhard.cells.1, hvl]; omega) fun p u y hu hy => ?_
      exact elem_vp (base := idx * sz) hhard ih (fun p' u' y' hu' hy' => hcell idx p' v u' y' hi hu' hy') (by rw [hvl]; omega) hu hy

/-- A call that comes to a value, whatever named memory there is. -/
def PCall (P : Program) (f : FuncId) (args : List SV) (v : SV) : Prop := (∀ a ∈ args, LitV a) ∧ ACall P f args ⟨0, []⟩ fun r h' => ∃ v', r = .ret v' ∧ Hard h' v' v

theorem pcall_of {P : Program} {f : FuncId} {args : List SV} {v : SV} (hargs : ∀ a ∈ args, LitV a) (hp : ACall P f args ⟨0, []⟩ fun r h' => ∃ v', r = .ret v' ∧ Hard h' v' v) : PCall P f args v := ⟨hargs, hp⟩

/-- Out of a run that begins with no named memory. -/
theorem PCall.run {P : Program} {f : FuncId} {args : List SV} {v : SV} (hpc : PCall P f args v) (h : Heap) : ACall P f args h fun r h' => r = .ret v ∧ h' = h := by
  obtain ⟨hargs, hp⟩ := hpc
  refine ⟨fun c w xs hr hs hv => ?_⟩
  have hr0 : Rep c ⟨0, []⟩ w := ⟨(fun i o ho => by cases ho), (fun i o ho => by cases ho), (fun i j o p ho => by cases ho), (fun i o ho => by cases ho), hr.im, hr.glob⟩
  refine (hp.calls c w xs hr0 hs fun i u x hu hx => .pure ((hargs u (List.mem_of_getElem? hu)).vp (hv i u x hu hx))).mono fun en w' hpost => ?_
  obtain ⟨c', h', r, ⟨v', rfl, hhard⟩, hr', hx', x, rfl, hvx⟩ := hpost
  have hfr : ∀ b, b < w.heap.size → w'.heap[b]? = w.heap[b]? := fun b hb => hx'.frame b hb fun i o ho => by cases ho
  have hnew : ∀ i o, h'.obj i = some o → w.heap.size ≤ c'.β i := fun i o ho => by
    rcases hx'.new i o ho with h | ⟨o', ho', _⟩
    · exact h
    · cases ho'
  let c2 : Cx := ⟨c.β, fun b => c'.Im b ∨ ∃ i o, h'.obj i = some o ∧ c'.β i = b⟩
  have him : ∀ b, c2.Im b → c.Im b ∨ w.heap.size ≤ b := by
    rintro b (hb | ⟨i, o, ho, rfl⟩)
    · rcases hx'.im' b hb with hb | hb | ⟨i, o, ho, _⟩
      · exact .inl hb
      · exact .inr hb
      · cases ho
    · exact .inr (hnew i o ho)
  have hext : Ext c h w c2 h w' := ⟨hx'.os, hx'.tape, hx'.output, hx'.size, fun b hb _ => hfr b hb, hx'.shape, fun b hb => .inl (hx'.im b hb), fun b hb => (him b hb).imp id .inl, Nat.le_refl _,
    fun i o _ ho => ⟨o, ho, Nat.le_refl _, rfl, fun _ => rfl⟩, fun i o ho => .inr ⟨o, ho, rfl⟩⟩
  refine ⟨c2, h, .ret v, ⟨rfl, rfl⟩, ⟨hr.lt, fun i o ho => (hr.obj i o ho).mono hr hext (hfr _ (hr.obj i o ho).lt), hr.inj, fun i o ho hb => ?_, fun b hb => ?_, hr.globx hext⟩, hext, x, rfl, .pure (hhard.vp hr' (fun b hb => .inl hb) (fun i o ho => .inr ⟨i, o, ho, rfl⟩) hvx)⟩
  · rcases him _ hb with h1 | h1
    · exact hr.apart i o ho h1
    · have := (hr.obj i o ho).lt
      have e : c2.β i = c.β i := rfl
      omega
  · rcases hb with hb | ⟨i, o, ho, rfl⟩
    · exact hr'.im b hb
    · exact (hr'.obj i o ho).lt

theorem PCall.call {P : Program} {f : FuncId} {args : List SV} {v : SV} (hp : PCall P f args v) {h : Heap} {R : AEnd → Heap → Prop} (hR : R (.ret v) h) : ACall P f args h R :=
  (hp.run h).mono fun r h' ⟨h1, h2⟩ => by subst h1; subst h2; exact hR

theorem leaf {h : Heap} {v v' : SV} (he : v = v') (hl : LitV v') : ∃ u, AEnd.ret v = .ret u ∧ Hard h u v' := ⟨v', by rw [he], .lit hl⟩
theorem lit2 {a b : SV} (ha : LitV a) (hb : LitV b) : LitV (.tup [a, b]) := .tup (by simp only [List.mem_cons, List.not_mem_nil, or_false]; rintro _ (rfl | rfl); exact ha; exact hb)
theorem lits1 {a : SV} (ha : LitV a) : ∀ x ∈ [a], LitV x := by simp only [List.mem_singleton]; rintro _ rfl; exact ha
theorem lits2 {a b : SV} (ha : LitV a) (hb : LitV b) : ∀ x ∈ [a, b], LitV x := by simp only [List.mem_cons, List.not_mem_nil, or_false]; rintro _ (rfl | rfl); exact ha; exact hb
theorem lits3 {a b c : SV} (ha : LitV a) (hb : LitV b) (hc : LitV c) : ∀ x ∈ [a, b, c], LitV x := by simp only [List.mem_cons, List.not_mem_nil, or_false]; rintro _ (rfl | rfl | rfl); exact ha; exact hb; exact hc
theorem lits4 {a b c d : SV} (ha : LitV a) (hb : LitV b) (hc : LitV c) (hd : LitV d) : ∀ x ∈ [a, b, c, d], LitV x := by simp only [List.mem_cons, List.not_mem_nil, or_false]; rintro _ (rfl | rfl | rfl | rfl); exact ha; exact hb; exact hc; exact hd
end Ab
namespace Ab
set_option linter.unusedVariables false
set_option linter.unusedSimpArgs false
open Go

def offK (S : Nat → Bool) : List (Nat × AObj) → (List (Nat × AObj) → Prop) → Prop
  | [], k => k []
  | (i, o) :: r, k => @Bool.rec (fun _ => Prop) (offK S r fun r' => k ((i, o) :: r')) (offK S r k) (S i)
def offL (S : Nat → Bool) : List (Nat × AObj) → List (Nat × AObj)
  | [] => []
  | (i, o) :: r => bif S i then offL S r else (i, o) :: offL S r
def onL (S : Nat → Bool) : List (Nat × AObj) → List (Nat × AObj)
  | [] => []
  | (i, o) :: r => bif S i then (i, o) :: onL S r else onL S r
theorem offK_eq (S : Nat → Bool) : ∀ (l : List (Nat × AObj)) (k : List (Nat × AObj) → Prop), offK S l k = k (offL S l)
  | [], k => rfl
  | (i, o) :: r, k => by
    unfold offK offL
    cases S i
    · exact offK_eq S r _
    · exact offK_eq S r _
theorem objL_off (S : Nat → Bool) : ∀ (l : List (Nat × AObj)) (i : Nat), objL (offL S l) i = if S i = true then none else objL l i
  | [], i => by simp [offL, objL]
  | (j, o) :: r, i => by
    unfold offL
    cases hj : S j
    · simp only [cond_false]
      unfold objL
      by_cases h : j = i
      · subst h; rw [if_pos rfl, if_pos rfl, hj]; rfl
      · rw [if_neg h, if_neg h]; exact objL_off S r i
    · simp only [cond_true]
      rw [objL_off S r i]
      conv => rhs; unfold objL
      by_cases h : j = i
      · subst h; rw [hj]; rfl
      · rw [if_neg h]
theorem objL_on (S : Nat → Bool) : ∀ (l : List (Nat × AObj)) (i : Nat), objL (onL S l) i = if S i = true then objL l i else none
  | [], i => by simp [onL, objL]
  | (j, o) :: r, i => by
    unfold onL
    cases hj : S j
    · simp only [cond_false]
      rw [objL_on S r i]
      conv => rhs; unfold objL
      by_cases h : j = i
      · subst h; rw [hj]; rfl
      · rw [if_neg h]
    · simp only [cond_true]
      unfold objL
      by_cases h : j = i
      · subst h; rw [if_pos rfl, if_pos rfl, hj]; rfl
      · rw [if_neg h, if_neg h]; exact objL_on S r i

inductive HardL (A : Heap) : List SV → List SV → Prop
  | nil : HardL A [] []
  | cons {v v' : SV} {l l' : List SV} (h : Hard A v v') (r : HardL A l l') : HardL A (v :: l) (v' :: l')
theorem HardL.len {A : Heap} {l l' : List SV} (h : HardL A l l') : l.length = l'.length := by induction h <;> simp_all
theorem HardL.at_ {A : Heap} {l l' : List SV} (h : HardL A l l') : ∀ {i : Nat} {v : SV}, l'[i]? = some v → ∃ u, l[i]? = some u ∧ Hard A u v := by
  induction h with
  | nil => intro i v hv; simp at hv
  | cons h _ ih =>
    intro i v hv
    cases i with
    | zero => simp at hv; subst hv; exact ⟨_, rfl, h⟩
    | succ i => simp at hv; obtain ⟨u, hu, hh⟩ := ih hv; exact ⟨u, by simpa using hu, hh⟩

section
variable {c : Cx} {h : Heap} {w : World} (S : Nat → Bool)
def frz (c : Cx) (h : Heap) : Cx := ⟨c.β, fun b => c.Im b ∨ ∃ i o, h.obj i = some o ∧ S i = true ∧ c.β i = b⟩

theorem off_sub {i : Nat} {o : AObj} (ho : (Heap.mk h.nxt (offL S h.l)).obj i = some o) : h.obj i = some o ∧ S i = false := by
  unfold Heap.obj at ho ⊢
  rw [objL_off] at ho
  cases hs : S i
  · rw [hs] at ho; exact ⟨ho, rfl⟩
  · rw [hs] at ho; cases ho
theorem on_sub {i : Nat} {o : AObj} (ho : (Heap.mk h.nxt (onL S h.l)).obj i = some o) : h.obj i = some o ∧ S i = true := by
  unfold Heap.obj at ho ⊢
  rw [objL_on] at ho
  cases hs : S i
  · rw [hs] at ho; cases ho
  · rw [hs] at ho; exact ⟨ho, rfl⟩

theorem Rep.frz (hr : Rep c h w) : Rep (frz S c h) ⟨h.nxt, offL S h.l⟩ w where
  lt i o ho := hr.lt i o (off_sub S ho).1
  obj i o ho := by
    have := (hr.obj i o (off_sub S ho).1).sub (A' := ⟨h.nxt, offL S h.l⟩) (fun i o ho => (off_sub S ho).1) rfl
    exact OR.im (c := c) (c' := Ab.frz S c h) (fun hv => VR.im (c := c) (c' := Ab.frz S c h) rfl (fun b hb => .inl hb) hv) this
  inj i j o p ho hp he := hr.inj i j o p (off_sub S ho).1 (off_sub S hp).1 he
  apart i o ho := by
    rintro (hb | ⟨j, p, hp, hs, he⟩)
    · exact hr.apart i o (off_sub S ho).1 hb
    · have := hr.inj j i p o hp (off_sub S ho).1 he
      subst this
      rw [(off_sub S ho).2] at hs; cases hs
  im b hb := by
    rcases hb with hb | ⟨j, p, hp, _, rfl⟩
    · exact hr.im b hb
    · exact (hr.obj j p hp).lt
  glob := hr.glob.mono (fun b hb => .inl hb) fun _ _ => rfl
theorem Ext.frz : Ext c h w (frz S c h) ⟨h.nxt, offL S h.l⟩ w where
  os := rfl
  tape := rfl
  output := rfl
  size := Nat.le_refl _
  frame _ _ _ := rfl
  shape _ _ := rfl
  im b hb := .inl hb
  im' b hb := by
    rcases hb with hb | ⟨j, p, hp, _, he⟩
    · exact .inl hb
    · exact .inr (.inr ⟨j, p, hp, he⟩)
  nxt := Nat.le_refl _
  old i o' _ ho := ⟨o', (off_sub S ho).1, Nat.le_refl _, rfl, fun _ => rfl⟩
  new i o' ho := .inr ⟨o', (off_sub S ho).1, rfl⟩
theorem Hard.frz (hr : Rep c h w) {v v' : SV} (hh : Hard ⟨h.nxt, onL S h.l⟩ v v') {x : Value} (hv : VR c h w v x) : VP (frz S c h).Im w v' x := by
  have hr2 : Rep c ⟨h.nxt, onL S h.l⟩ w := ⟨fun i o ho => hr.lt i o (on_sub S ho).1, fun i o ho => (hr.obj i o (on_sub S ho).1).sub (fun i o ho => (on_sub S ho).1) rfl, fun i j o p ho hp he => hr.inj i j o p (on_sub S ho).1 (on_sub S hp).1 he,
    fun i o ho => hr.apart i o (on_sub S ho).1, hr.im, hr.glob⟩
  exact Hard.vp hr2 (fun b hb => .inl hb) (fun i o ho => .inr ⟨i, o, (on_sub S ho).1, (on_sub S ho).2, rfl⟩) hh (hv.sub (fun i o ho => (on_sub S ho).1) rfl)
end

/-- The named blocks of S are written no more, from this call on. -/
theorem ACall.freeze {P : Program} {f : FuncId} {args args' : List SV} {h : Heap} {R : AEnd → Heap → Prop} (S : Nat → Bool) (hh : HardL ⟨h.nxt, onL S h.l⟩ args args')
    (hp : offK S h.l fun l' => ACall P f args' ⟨h.nxt, l'⟩ R) : ACall P f args h R := by
  rw [offK_eq] at hp
  refine ⟨fun c w xs hr hs hv => ?_⟩
  refine (hp.calls (frz S c h) w xs (hr.frz S) (hs.trans hh.len) fun i v x hi hx => ?_).mono fun en w' hpost => ?_
  · obtain ⟨u, hu, huv⟩ := hh.at_ hi
    exact .pure (huv.frz S hr (hv i u x hu hx))
  · obtain ⟨c', h', r, hR, hr', hx', hen⟩ := hpost
    exact ⟨c', h', r, hR, hr', (Ext.frz S).trans hr hx', hen⟩

theorem brY {b : Bool} {p q : Prop} (h : b = true) (hp : p) : @Bool.rec (fun _ => Prop) q p b := by subst h; exact hp
theorem brN {b : Bool} {p q : Prop} (h : b = false) (hq : q) : @Bool.rec (fun _ => Prop) q p b := by subst h; exact hq
def agree : List SV → Nat → (Nat → SV) → Prop
  | [], _, _ => True
  | v :: r, j, get => v = get j ∧ LitV v ∧ agree r (j + 1) get
theorem agree_at : ∀ {l : List SV} {k : Nat} {get : Nat → SV}, agree l k get → ∀ {j : Nat} {v : SV}, l[j]? = some v → v = get (k + j) ∧ LitV v
  | [], _, _, _, j, v, hv => by simp at hv
  | u :: r, k, get, ⟨h1, h2, h3⟩, 0, v, hv => by simp at hv; subst hv; exact ⟨h1, h2⟩
  | u :: r, k, get, ⟨h1, h2, h3⟩, j + 1, v, hv => by
    have := agree_at h3 (j := j) (v := v) (by simpa using hv)
    rw [Nat.add_assoc, Nat.add_comm 1 j] at this
    exact this
/-- A whole block of plain values. -/
theorem hard_all {A : Heap} {i g sz : Nat} {cap : Option Nat} {elems : List SV} {sk : Sk} {get : Nat → SV} (ho : A.obj i = some (.vec g sz elems sk)) (h : agree elems 0 get) :
    Hard A (.sl i g sz 0 elems.length cap) (.lst sz elems.length get) :=
  .sl ho (by omega) fun j v _ hv => by
    have := agree_at h hv
    rw [Nat.zero_add, Nat.zero_add] at this
    rw [← this.1]
    exact .lit this.2

theorem ACall.frz {P : Program} {f : FuncId} {args args' : List SV} {n : Nat} {l : List (Nat × AObj)} {R : AEnd → Heap → Prop} (S : Nat → Bool) (hh : HardL ⟨n, onL S l⟩ args args')
    (hp : offK S l fun l' => ACall P f args' ⟨n, l'⟩ R) : ACall P f args ⟨n, l⟩ R := ACall.freeze S hh hp
theorem ACall.frz1 {P : Program} {f : FuncId} {v' : SV} {i g sz off len : Nat} {cap : Option Nat} {n : Nat} {l : List (Nat × AObj)} {R : AEnd → Heap → Prop}
    (h2 : Hard ⟨n, onL (fun j => Nat.beq j i) l⟩ (.sl i g sz off len cap) v') (hp : offK (fun j => Nat.beq j i) l fun l' => ACall P f [v'] ⟨n, l'⟩ R) : ACall P f [.sl i g sz off len cap] ⟨n, l⟩ R :=
  ACall.freeze _ (.cons h2 .nil) hp
theorem ACall.frz2 {P : Program} {f : FuncId} {x v' : SV} {i g sz off len : Nat} {cap : Option Nat} {n : Nat} {l : List (Nat × AObj)} {R : AEnd → Heap → Prop} (hx : LitV x)
    (h2 : Hard ⟨n, onL (fun j => Nat.beq j i) l⟩ (.sl i g sz off len cap) v') (hp : offK (fun j => Nat.beq j i) l fun l' => ACall P f [x, v'] ⟨n, l'⟩ R) : ACall P f [x, .sl i g sz off len cap] ⟨n, l⟩ R :=
  ACall.freeze _ (.cons (.lit hx) (.cons h2 .nil)) hp

/-- A value that hangs on no memory at all. -/
inductive Solid : SV → Prop
  | undef : Solid .undef
  | bool (b : Bool) : Solid (.bool b)
  | int (k : IntKind) (n : Int) : Solid (.int k n)
  | str (s : List UInt8) : Solid (.str s)
  | nilp : Solid .nilp
  | nils : Solid .nils
  | glob (g : Nat) : Solid (.glob g)
  | nilf : Solid .nilf
  | nili : Solid .nili
  | iface (t : TypeId) {v : SV} (h : Solid v) : Solid (.iface t v)
  | agg {l : List SV} (h : ∀ v ∈ l, Solid v) : Solid (.agg l)
  | tup {l : List SV} (h : ∀ v ∈ l, Solid v) : Solid (.tup l)
theorem Solid.vp {v : SV} (hl : Solid v) : ∀ {c : Cx} {h : Heap} {w : World} {x : Value}, VR c h w v x → ∀ (Im : Nat → Prop) (w' : World), VP Im w' v x := by
  induction hl with
  | iface t _ ih => intro c h w x hv Im w'; obtain ⟨y, rfl, hy⟩ := hv.iface_inv; exact .iface _ _ _ (ih hy _ _)
  | agg _ ih => intro c h w x hv Im w'; obtain ⟨cs, rfl, h1, h2⟩ := hv.agg_inv; exact .agg _ _ h1 fun i v x a b => ih v (List.mem_of_getElem? a) (h2 i v x a b) _ _
  | tup _ ih => intro c h w x hv Im w'; obtain ⟨cs, rfl, h1, h2⟩ := hv.tup_inv; exact .tup _ _ h1 fun i v x a b => ih v (List.mem_of_getElem? a) (h2 i v x a b) _ _
  | undef => intro c h w x _ Im w'; exact .undef _
  | bool b => intro c h w x hv Im w'; rw [hv.bool_inv]; exact .bool b
  | int k n => intro c h w x hv Im w'; rw [hv.int_inv]; exact .int k n
  | str s => intro c h w x hv Im w'; rw [hv.str_inv]; exact .str s
  | nilp => intro c h w x hv Im w'; rw [hv.nilp_inv]; exact .nilp
  | nils => intro c h w x hv Im w'; rw [hv.nils_inv]; exact .nils
  | glob g => intro c h w x hv Im w'; rw [hv.glob_inv]; exact .glob g
  | nilf => intro c h w x hv Im w'; rw [hv.nilf_inv]; exact .nilf
  | nili => intro c h w x hv Im w'; rw [hv.nili_inv]; exact .nili

/-- The named blocks of S are not written during this call. -/
theorem PCall.lend {P : Program} {f : FuncId} {args args' : List SV} {h : Heap} {v : SV} {R : AEnd → Heap → Prop} (hp : PCall P f args' v) (S : Nat → Bool) (hh : HardL ⟨h.nxt, onL S h.l⟩ args args') (hv : Solid v)
    (hR : R (.ret v) h) : ACall P f args h R := by
  refine ⟨fun c w xs hr hs hva => ?_⟩
  have hr0 : Rep (frz S c h) ⟨0, []⟩ w := ⟨(fun i o ho => by cases ho), (fun i o ho => by cases ho), (fun i j o p ho => by cases ho), (fun i o ho => by cases ho), (hr.frz S).im, (hr.frz S).glob⟩
  refine (hp.2.calls (frz S c h) w xs hr0 (hs.trans hh.len) fun i v x hi hx => ?_).mono fun en w' hpost => ?_
  · obtain ⟨u, hu, huv⟩ := hh.at_ hi
    exact .pure (huv.frz S hr (hva i u x hu hx))
  · obtain ⟨c', h', r, ⟨v', rfl, hhard⟩, hr', hx', x, rfl, hvx⟩ := hpost
    have hfr : ∀ b, b < w.heap.size → w'.heap[b]? = w.heap[b]? := fun b hb => hx'.frame b hb fun i o ho => by cases ho
    have hext : Ext c h w c h w' := ⟨hx'.os, hx'.tape, hx'.output, hx'.size, fun b hb _ => hfr b hb, hx'.shape, fun b hb => hb, fun b hb => .inl hb, Nat.le_refl _,
      fun i o _ ho => ⟨o, ho, Nat.le_refl _, rfl, fun _ => rfl⟩, fun i o ho => .inr ⟨o, ho, rfl⟩⟩
    have hvp := hhard.vp hr' (Im := fun _ => True) (fun _ _ => trivial) (fun _ _ _ => trivial) hvx
    exact ⟨c, h, .ret v, hR, ⟨hr.lt, fun i o ho => (hr.obj i o ho).mono hr hext (hfr _ (hr.obj i o ho).lt), hr.inj, hr.apart, fun b hb => Nat.lt_of_lt_of_le (hr.im b hb) hx'.size, hr.globx hext⟩, hext, x, rfl,
      .pure (hv.vp (c := c) (h := h) (w := w') (.pure (hv.vp (c := ⟨c.β, fun _ => True⟩) (h := h) (.pure hvp) c.Im w')) c.Im w')⟩
end Ab
namespace Ab
set_option linter.unusedVariables false
set_option linter.unusedSimpArgs false
open Go Go.RowKit

theorem globOk_none {Im : Nat → Prop} {w : World} (h : ∀ g, globTab g = []) : GlobOk Im w := fun g v hg => by unfold globSV at hg; rw [h g] at hg; cases hg
theorem PCall.below {P : Program} {f : FuncId} {args : List SV} {v : SV} (hp : PCall P f args v) {w : World} {xs : Array Value} (Im : Nat → Prop) (him : ∀ b, Im b → b < w.heap.size) (hg : GlobOk Im w) (hs : xs.size = args.length)
    (hv : ∀ (i : Nat) (u : SV) (x : Value), args[i]? = some u → xs[i]? = some x → VP Im w u x) :
    Calls P f xs w fun e w' => (∃ x, e = .returned x ∧ VP (fun _ => True) w' v x) ∧ Below w.heap.size w w' := by
  have hr0 : Rep ⟨fun _ => 0, Im⟩ ⟨0, []⟩ w := ⟨(fun i o ho => by cases ho), (fun i o ho => by cases ho), (fun i j o p ho => by cases ho), (fun i o ho => by cases ho), him, hg⟩
  refine (hp.2.calls ⟨fun _ => 0, Im⟩ w xs hr0 hs fun i u x hu hx => .pure (hv i u x hu hx)).mono fun en w' hpost => ?_
  obtain ⟨c', h', r, ⟨v', rfl, hhard⟩, hr', hx', x, rfl, hvx⟩ := hpost
  refine ⟨⟨x, rfl, hhard.vp hr' (fun _ _ => trivial) (fun _ _ _ => trivial) hvx⟩, hx'.os, hx'.tape, hx'.output, hx'.size, fun b hb => hx'.frame b hb fun i o ho => by cases ho⟩

/-- A law's run: it comes to 'true'. -/
theorem PCall.holds {P : Program} {f : FuncId} {args : List SV} (hp : PCall P f args (.bool true)) {w : World} {xs : Array Value} (Im : Nat → Prop) (him : ∀ b, Im b → b < w.heap.size) (hg : GlobOk Im w) (hs : xs.size = args.length)
    (hv : ∀ (i : Nat) (u : SV) (x : Value), args[i]? = some u → xs[i]? = some x → VP Im w u x) :
    Calls P f xs w fun e w' => e = .returned (.bool true) ∧ Below w.heap.size w w' := by
  refine (hp.below Im him hg hs hv).mono fun e w' ⟨⟨x, he, hx⟩, hb⟩ => ?_
  cases hx
  exact ⟨he, hb⟩

section
variable {H : Type} {enc : TypeId × Value → H} {P : Program}
theorem post_kept {f : Func} {s : ChangeSpec} {apart fresh handsOn : Bool} {W W' : World} {args : Array Value} {v : Value} {ds gs : List (DataW H)} {before pa pv : List MemPlace}
    (hW : DataW.Whole enc P f.params.toList s.vars apart W args.toList ds gs before)
    (hres : ∀ (b : Nat) (sp : Nat → Bool) (hd : Bool), DataW.TrodAll enc P W' b sp hd f.resultTypes.toList (v.resultList f.resultTypes.size) (s.fn H (ds ++ gs)).results [])
    (hargs : DataW.TrodAll enc P W' 0 (fun b => decide (b < W.heap.size)) true f.params.toList args.toList (s.fn H (ds ++ gs)).args pa)
    (hvars : DataW.TrodVars enc P W' (fun b => decide (b < W.heap.size)) s.vars (s.fn H (ds ++ gs)).vars pv)
    (hb : Below W.heap.size W W') : s.post enc P f apart fresh handsOn false W args v W' :=
  ⟨ds, gs, before, [], pa, pv, hW, hres _ _ _, hargs, hvars, hb.frame _, fun h => by cases h⟩
end
end Ab
namespace Ab
open Go Go.RowKit
set_option linter.unusedVariables false
set_option linter.unusedSimpArgs false

theorem mapM_some {α β : Type} {f : α → Option β} : ∀ {l : List α} {ys : List β}, l.mapM f = some ys → ys.length = l.length ∧ ∀ (i : Nat) (x : α), l[i]? = some x → ∃ y, ys[i]? = some y ∧ f x = some y
  | [], ys, h => by simp at h; subst h; exact ⟨rfl, fun i x hx => by simp at hx⟩
  | a :: l, ys, h => by
    rw [List.mapM_cons] at h
    cases hf : f a with
    | none => rw [hf] at h; cases h
    | some b =>
      cases hl : l.mapM f with
      | none => rw [hf, hl] at h; cases h
      | some bs =>
        rw [hf, hl] at h
        have h' : some (b :: bs) = some ys := h
        cases h'
        obtain ⟨h1, h2⟩ := mapM_some hl
        refine ⟨by simp [h1], fun i x hx => ?_⟩
        cases i with
        | zero => simp at hx; subst hx; exact ⟨b, rfl, hf⟩
        | succ i => simp at hx; obtain ⟨y, hy, hfy⟩ := h2 i x hx; exact ⟨y, by simpa using hy, hfy⟩

def CR2 (w : World) (svs : List SV) (cs : List Value) : Prop := cs.length = svs.length ∧ ∀ (j : Nat) (u : SV) (y : Value), svs[j]? = some u → cs[j]? = some y → VP (fun b => b < w.heap.size) w u y

/-- How values of a type that were read are told: what they are read as, and the cells of that. -/
structure Rd (P : Program) (t : TypeId) (α : Type) where
  sv : α → List SV
  ok : α → Prop
  sz : Nat
  szof : P.cellsOf t = sz
  len : ∀ x, (sv x).length = sz
  rich : α → Prop
  rd : ∀ {H : Type} {enc : TypeId × Value → H} {w : World} {base : Nat} {spare : Nat → Bool} {held : Bool} {fuel : Nat} {cs : List Value} {d : DataW H} {ps : List MemPlace},
    DataW.trod enc P w base spare held fuel t cs = some (d, ps) → ∃ x, ok x ∧ ((d.weights P t).all (· ≤ reachBytes) = true → rich x) ∧ CR2 w (sv x) cs

theorem cr2_one {w : World} {u : SV} {y : Value} (h : VP (fun b => b < w.heap.size) w u y) : CR2 w [u] [y] := by
  refine ⟨rfl, fun j u' y' h1 h2 => ?_⟩
  cases j with
  | zero => simp at h1 h2; subst h1; subst h2; exact h
  | succ j => simp at h1

section
variable {P : Program} {t : TypeId}
def Rd.int {k : IntKind} (hu : P.underlying t = some (.int k)) (hc : P.cellsOf t = 1) : Rd P t Int where
  sv n := [.int k n]
  ok n := k.min ≤ n ∧ n ≤ k.max
  rich _ := True
  sz := 1
  szof := hc
  len _ := rfl
  rd {H enc w base spare held fuel cs d ps} h := by
    cases fuel with
    | zero => simp [DataW.trod] at h
    | succ fuel =>
      unfold DataW.trod at h
      rw [hu] at h
      split at h <;> (try rename_i he; try (cases he)) <;> try cases h
      rename_i k' n
      split at h
      · rename_i hk
        obtain ⟨rfl, hwf⟩ := hk
        simp only [Lit.wf, Bool.and_eq_true, decide_eq_true_eq] at hwf
        exact ⟨n, hwf, fun _ => trivial, cr2_one (.int _ _)⟩
      · cases h
def Rd.bool (hu : P.underlying t = some .bool) (hc : P.cellsOf t = 1) : Rd P t Bool where
  sv b := [.bool b]
  ok _ := True
  rich _ := True
  sz := 1
  szof := hc
  len _ := rfl
  rd {H enc w base spare held fuel cs d ps} h := by
    cases fuel with
    | zero => simp [DataW.trod] at h
    | succ fuel =>
      unfold DataW.trod at h
      rw [hu] at h
      split at h <;> (try rename_i he; try (cases he)) <;> try cases h
      exact ⟨_, trivial, fun _ => trivial, cr2_one (.bool _)⟩
def Rd.str (hu : P.underlying t = some .string) (hc : P.cellsOf t = 1) : Rd P t (List UInt8) where
  sv s := [.str s]
  ok s := s.length ≤ 9223372036854775807
  rich s := s.length ≤ 140737488351232
  sz := 1
  szof := hc
  len _ := rfl
  rd {H enc w base spare held fuel cs d ps} h := by
    cases fuel with
    | zero => simp [DataW.trod] at h
    | succ fuel =>
      unfold DataW.trod at h
      rw [hu] at h
      split at h <;> (try rename_i he; try (cases he)) <;> try cases h
      rename_i s
      split at h
      · rename_i hs
        refine ⟨s.data.toList, ?_, fun hw => ?_, cr2_one ?_⟩
        · have e : s.data.toList.length = s.size := by rw [Array.length_toList]; rfl
          unfold maxLen at hs
          omega
        · cases h
          have e : s.data.toList.length = s.size := by rw [Array.length_toList]; rfl
          have hw' := of_decide_eq_true (List.all_eq_true.1 hw _ (List.mem_singleton.2 rfl))
          unfold reachBytes at hw'
          have e3 : s.toList.length = s.data.toList.length := by rw [ByteArray.toList_eq]
          omega
        · have := VP.str (Im := fun b => b < w.heap.size) (w := w) s.data.toList
          simpa using this
      · cases h

/-- The fields of a struct, one behind the other. -/
structure RdF (P : Program) (fs : List Field) (off : Nat) (α : Type) where
  sv : α → List SV
  ok : α → Prop
  sz : Nat
  len : ∀ x, (sv x).length = sz
  rich : α → Prop
  rd : ∀ {H : Type} {enc : TypeId × Value → H} {w : World} {base : Nat} {spare : Nat → Bool} {held : Bool} {fuel : Nat} {cs : List Value} {xs : List (DataW H × List MemPlace)},
    fs.mapM (fun f => DataW.trod enc P w base spare held fuel f.type ((cs.drop f.offset).take (P.cellsOf f.type))) = some xs → ∃ x, ok x ∧ ((DataW.weightsEach P (fs.map (·.type)) (xs.map (·.1))).all (· ≤ reachBytes) = true → rich x) ∧ ∀ (j : Nat) (u : SV) (y : Value), (sv x)[j]? = some u → cs[off + j]? = some y → VP (fun b => b < w.heap.size) w u y
def RdF.nil {off : Nat} : RdF P [] off Unit where
  sv _ := []
  ok _ := True
  rich _ := True
  sz := 0
  len _ := rfl
  rd _ := ⟨(), trivial, fun _ => trivial, fun j u y h => by simp at h⟩
def RdF.cons {f : Field} {fs : List Field} {off : Nat} {α β : Type} (r : Rd P f.type α) (ho : f.offset = off) (rest : RdF P fs (off + r.sz) β) : RdF P (f :: fs) off (α × β) where
  sv x := r.sv x.1 ++ rest.sv x.2
  ok x := r.ok x.1 ∧ rest.ok x.2
  rich x := r.rich x.1 ∧ rest.rich x.2
  sz := r.sz + rest.sz
  len x := by rw [List.length_append, r.len, rest.len]
  rd {H enc w base spare held fuel cs xs} h := by
    rw [List.mapM_cons] at h
    cases hf : DataW.trod enc P w base spare held fuel f.type ((cs.drop f.offset).take (P.cellsOf f.type)) with
    | none => rw [hf] at h; cases h
    | some b =>
      cases hl : fs.mapM (fun f => DataW.trod enc P w base spare held fuel f.type ((cs.drop f.offset).take (P.cellsOf f.type))) with
      | none => rw [hf, hl] at h; cases h
      | some bs =>
        obtain ⟨x, hx, hwx, hlen, hcr⟩ := r.rd (d := b.1) (ps := b.2) hf
        obtain ⟨y, hy, hwy, hcr'⟩ := rest.rd hl
        have hxs : b :: bs = xs := by rw [hf, hl] at h; exact Option.some.inj h
        subst hxs
        refine ⟨(x, y), ⟨hx, hy⟩, fun hw => ?_, fun j u z hu hz => ?_⟩
        · simp only [List.map_cons, DataW.weightsEach, List.all_append, Bool.and_eq_true] at hw
          exact ⟨hwx hw.1, hwy hw.2⟩
        rw [List.getElem?_append] at hu
        rw [r.len] at hu
        by_cases hj : j < r.sz
        · rw [if_pos hj] at hu
          refine hcr j u z hu ?_
          rw [List.getElem?_take, r.szof, if_pos hj, List.getElem?_drop, ho]
          exact hz
        · rw [if_neg hj] at hu
          refine hcr' (j - r.sz) u z hu ?_
          rw [← hz]
          congr 1
          omega
def Rd.struct {fs : Array Field} {α : Type} (hu : P.underlying t = some (.struct fs)) (rf : RdF P fs.toList 0 α) (hc : P.cellsOf t = rf.sz) : Rd P t α where
  sv := rf.sv
  ok := rf.ok
  rich := rf.rich
  sz := rf.sz
  szof := hc
  len := rf.len
  rd {H enc w base spare held fuel cs d ps} h := by
    cases fuel with
    | zero => simp [DataW.trod] at h
    | succ fuel =>
      unfold DataW.trod at h
      rw [hu] at h
      dsimp only at h
      split at h
      · rename_i hlen
        cases hm : fs.toList.mapM (fun f => DataW.trod enc P w base spare held fuel f.type ((cs.drop f.offset).take (P.cellsOf f.type))) with
        | none => rw [hm] at h; cases h
        | some xs =>
          obtain ⟨x, hx, hwx, hcr⟩ := rf.rd hm
          rw [hm] at h
          have hd : d = .agg (xs.map (·.1)) := by cases h; rfl
          exact ⟨x, hx, fun hw => hwx (by rw [hd] at hw; simp only [DataW.weights, hu] at hw; exact hw), by rw [hlen, hc, rf.len], fun j u y h1 h2 => hcr j u y h1 (by rw [Nat.zero_add]; exact h2)⟩
      · cases h

/-- The same values, told in other words. -/
def Rd.map {α β : Type} (r : Rd P t α) (g : α → β) (sv : β → List SV) (ok : β → Prop) (h1 : ∀ x, r.sv x = sv (g x)) (h2 : ∀ x, r.ok x → ok (g x)) (h3 : ∀ y, (sv y).length = r.sz) : Rd P t β where
  sv := sv
  ok := ok
  rich y := ∃ x, g x = y ∧ r.rich x
  sz := r.sz
  szof := r.szof
  len := h3
  rd h := by
    obtain ⟨x, hx, hw, hc⟩ := r.rd h
    exact ⟨g x, h2 x hx, fun h => ⟨x, rfl, hw h⟩, h1 x ▸ hc⟩

theorem cells_at {w : World} {base : Nat} {a : Addr} {n : Nat} {cs : List Value} (h : w.cells? base a n = some cs) : cs.length = n ∧ ∀ j, j < n → ∃ y, cs[j]? = some y ∧ w.cell? (a.add j) = some y := by
  unfold World.cells? at h
  split at h
  · obtain ⟨h1, h2⟩ := mapM_some h
    rw [List.length_range] at h1
    refine ⟨h1, fun j hj => ?_⟩
    exact h2 j j (by rw [List.getElem?_range hj])
  · cases h

theorem weightsAll_at {H : Type} {e : TypeId} : ∀ {l : List (DataW H)}, (DataW.weightsAll P e l).all (· ≤ reachBytes) = true → ∀ {i : Nat} {d : DataW H}, l[i]? = some d → (d.weights P e).all (· ≤ reachBytes) = true
  | [], _, i, d, h => by simp at h
  | d0 :: l, hw, i, d, h => by
    simp only [DataW.weightsAll, List.all_append, Bool.and_eq_true] at hw
    cases i with
    | zero => simp at h; subst h; exact hw.1
    | succ i => exact weightsAll_at hw.2 (by simpa using h)
def Rd.slice {e : TypeId} {α : Type} (hu : P.underlying t = some (.slice e)) (hc : P.cellsOf t = 1) (r : Rd P e α) (hsz : 0 < r.sz) (mk : α → SV) (hmk : ∀ x, (mk x).cells = r.sv x) (dflt : α) : Rd P t (List α) where
  sv l := [.lst r.sz l.length fun i => mk (l.getD i dflt)]
  ok l := (∀ x ∈ l, r.ok x) ∧ l.length ≤ 9223372036854775807
  rich l := (∀ x ∈ l, r.rich x) ∧ l.length * P.bytesOf e ≤ 140737488351232
  sz := 1
  szof := hc
  len _ := rfl
  rd {H enc w base spare held fuel cs d ps} h := by
    cases fuel with
    | zero => simp [DataW.trod] at h
    | succ fuel =>
      unfold DataW.trod at h
      rw [hu] at h
      split at h <;> (try rename_i he; try (cases he)) <;> try cases h
      · exact ⟨[], ⟨(fun x hx => by cases hx), Nat.zero_le _⟩, fun _ => ⟨(fun x hx => by cases hx), by simp⟩, cr2_one (.lst0 _ _ _ _)⟩
      · rename_i a len cap
        dsimp only at h
        split at h
        · rename_i hcond
          obtain ⟨hb, hlc, hcm⟩ := hcond
          cases hm : (List.range len).mapM (fun i => (w.cells? base (a.add (i * P.cellsOf e)) (P.cellsOf e)).bind (DataW.trod enc P w base spare held fuel e)) with
          | none => rw [hm] at h; cases h
          | some elems =>
            obtain ⟨h1, h2⟩ := mapM_some hm
            have hel : ∀ i, i < len → ∃ x ci, (r.ok x ∧ ∀ y, elems[i]? = some y → (y.1.weights P e).all (· ≤ reachBytes) = true → r.rich x) ∧ CR2 w (r.sv x) ci ∧ w.cells? base (a.add (i * r.sz)) r.sz = some ci := by
              intro i hi
              obtain ⟨y, hyi, hy⟩ := h2 i i (by rw [List.getElem?_range hi])
              rw [r.szof] at hy
              cases hci : w.cells? base (a.add (i * r.sz)) r.sz with
              | none => rw [hci] at hy; cases hy
              | some ci =>
                rw [hci] at hy
                obtain ⟨x, hx, hwx, hcr⟩ := r.rd (d := y.1) (ps := y.2) hy
                exact ⟨x, ci, ⟨hx, fun y' hy' hw => hwx (by rw [hyi] at hy'; cases hy'; exact hw)⟩, hcr, rfl⟩
            classical
            let f : Nat → α := fun i => if hi : i < len then Classical.choose (hel i hi) else dflt
            have hf : ∀ i, i < len → ∃ ci, (r.ok (f i) ∧ ∀ y, elems[i]? = some y → (y.1.weights P e).all (· ≤ reachBytes) = true → r.rich (f i)) ∧ CR2 w (r.sv (f i)) ci ∧ w.cells? base (a.add (i * r.sz)) r.sz = some ci := fun i hi => by
              have e1 : f i = Classical.choose (hel i hi) := by simp only [f]; rw [dif_pos hi]
              rw [e1]
              exact Classical.choose_spec (hel i hi)
            have hgetD : ∀ i, i < len → ((List.range len).map f).getD i dflt = f i := fun i hi => by simp [List.getD, hi]
            have hlen : ((List.range len).map f).length = len := by simp
            refine ⟨(List.range len).map f, ⟨fun x hx => ?_, by rw [hlen]; unfold maxLen at hcm; omega⟩, fun hw => ?_, cr2_one ?_⟩
            · obtain ⟨i, hi, rfl⟩ := List.mem_map.1 hx
              exact (hf i (List.mem_range.1 hi)).choose_spec.1.1
            · rw [hm] at h
              have hel2 : elems.length = len := by rw [h1, List.length_range]
              have hd : ∃ sp, d = .slice (elems.map (·.1)) sp := by
                simp only [Option.bind_eq_bind, Option.bind_some] at h
                obtain ⟨sp, _, h⟩ := Option.map_eq_some_iff.1 h
                exact ⟨_, (Prod.mk.inj h).1.symm⟩
              obtain ⟨sp, rfl⟩ := hd
              simp only [DataW.weights, hu, List.all_cons, List.all_append, Bool.and_eq_true, List.length_map, decide_eq_true_eq] at hw
              refine ⟨fun x hx => ?_, ?_⟩
              · obtain ⟨i, hi, rfl⟩ := List.mem_map.1 hx
                have hi := List.mem_range.1 hi
                obtain ⟨ci, hok, _⟩ := hf i hi
                refine hok.2 elems[i] (List.getElem?_eq_getElem (by omega)) ?_
                exact weightsAll_at hw.2.1 (i := i) (by rw [List.getElem?_map, List.getElem?_eq_getElem (by omega)]; rfl)
              · rw [hlen]
                have hw1 := hw.1
                rw [hel2] at hw1
                have : len * P.bytesOf e ≤ (len + sp.length) * P.bytesOf e := Nat.mul_le_mul_right _ (by omega)
                unfold reachBytes at hw1
                omega
            · rw [hlen]
              rcases Nat.eq_zero_or_pos len with h0 | h0
              · subst h0; exact .lst0 _ _ _ _
              · -- the block
                have hcell : ∀ i j, i < len → j < r.sz → ∃ y, w.cell? ((a.add (i * r.sz)).add j) = some y ∧ ∀ u, (r.sv (f i))[j]? = some u → VP (fun b => b < w.heap.size) w u y := by
                  intro i j hi hj
                  obtain ⟨ci, _, hcr, hci⟩ := hf i hi
                  obtain ⟨hl, hat⟩ := cells_at hci
                  obtain ⟨y, hy, hw⟩ := hat j hj
                  exact ⟨y, hw, fun u hu => hcr.2 j u y hu hy⟩
                obtain ⟨y0, hw0, _⟩ := hcell 0 0 h0 hsz
                have hspot : a.spot = none := by
                  cases hs : a.spot with
                  | none => rfl
                  | some p =>
                    exfalso
                    simp only [Nat.zero_mul, Addr.add, hs] at hw0
                    unfold World.cell? at hw0
                    split at hw0
                    · simp at hw0
                      rw [hs] at hw0
                      cases hw0.1
                    · cases hw0
                obtain ⟨b, off, sp⟩ := a
                simp only at hspot
                subst hspot
                have hadd : ∀ i j, ((⟨b, off, none⟩ : Addr).add (i * r.sz)).add j = ⟨b, off + i * r.sz + j, none⟩ := fun i j => by rw [add_eq, add_eq]
                rw [hadd] at hw0
                unfold World.cell? at hw0
                split at hw0
                · rename_i C ty fz hC
                  have hall : ∀ i j, i < len → j < r.sz → ∃ y, C[off + i * r.sz + j]? = some y ∧ ∀ u, (r.sv (f i))[j]? = some u → VP (fun b => b < w.heap.size) w u y := by
                    intro i j hi hj
                    obtain ⟨y, hw, hv⟩ := hcell i j hi hj
                    rw [hadd] at hw
                    simp only [World.cell?, hC, Option.isSome_none] at hw
                    exact ⟨y, by simpa using hw, hv⟩
                  have hblt : b < w.heap.size := by
                    rcases Nat.lt_or_ge b w.heap.size with hh | hh
                    · exact hh
                    · rw [Array.getElem?_eq_none hh] at hC; cases hC
                  refine .lst _ _ _ b off cap C ty fz hblt hC ?_ hlc (fun i hi => by rw [hmk, r.len]) fun i j v x hi hv hx => ?_
                  · obtain ⟨y, hy, _⟩ := hall (len - 1) (r.sz - 1) (by omega) (by omega)
                    have hlt : off + (len - 1) * r.sz + (r.sz - 1) < C.size := by
                      rcases Nat.lt_or_ge (off + (len - 1) * r.sz + (r.sz - 1)) C.size with hh | hh
                      · exact hh
                      · rw [Array.getElem?_eq_none hh] at hy; cases hy
                    have e1 : len * r.sz = (len - 1) * r.sz + r.sz := by
                      rw [← Nat.succ_mul]; congr 1; omega
                    omega
                  · rw [hmk, hgetD i hi] at hv
                    have hj : j < r.sz := by rw [← r.len (f i)]; exact getq_lt hv
                    obtain ⟨y, hy, hvp⟩ := hall i j hi hj
                    rw [hy] at hx; cases hx
                    exact hvp v hv
                · cases hw0
        · cases h

/-- One argument, of one cell. -/
theorem Rd.one {α : Type} (r : Rd P t α) {H : Type} {enc : TypeId × Value → H} {w : World} {base : Nat} {spare : Nat → Bool} {held : Bool} {v : Value} {d : DataW H} {ps : List MemPlace} (h : DataW.Trod enc P w base spare held t v d ps) (mk : α → SV) (h1 : ∀ x, r.sv x = [mk x]) (hna : ∀ cs, v ≠ .agg cs) :
    ∃ x, r.ok x ∧ VP (fun b => b < w.heap.size) w (mk x) v := by
  obtain ⟨fuel, hf⟩ := h
  obtain ⟨x, hx, _, _, hcr⟩ := r.rd hf
  refine ⟨x, hx, hcr 0 (mk x) v (by rw [h1]; rfl) ?_⟩
  cases v <;> first | rfl | exact absurd rfl (hna _)
/-- One argument, a struct. -/
theorem Rd.agg {α : Type} (r : Rd P t α) {fs : Array Field} (hu : P.underlying t = some (.struct fs)) {H : Type} {enc : TypeId × Value → H} {w : World} {base b0 : Nat} {spare : Nat → Bool} {held : Bool} {v : Value} {d : DataW H} {ps : List MemPlace} {rr : Reach} (hv : Value.okWide P w rr b0 t v)
    (h : DataW.Trod enc P w base spare held t v d ps) : ∃ x, r.ok x ∧ VP (fun b => b < w.heap.size) w (.agg (r.sv x)) v := by
  obtain ⟨fuel, hf⟩ := h
  obtain ⟨x, hx, _, hl, hcr⟩ := r.rd hf
  unfold Value.okWide at hv
  rw [hu] at hv
  obtain ⟨cs, rfl, hcs, _⟩ := hv
  have e : Value.cells (.agg cs) = cs := rfl
  rw [e] at hl hcr
  exact ⟨x, hx, .agg _ _ (by simpa using hl) fun i u y h1 h2 => hcr i u y h1 (by simpa using h2)⟩
theorem Rd.one' {α : Type} (r : Rd P t α) {H : Type} {enc : TypeId × Value → H} {w : World} {base : Nat} {spare : Nat → Bool} {held : Bool} {v : Value} {d : DataW H} {ps : List MemPlace} (h : DataW.Trod enc P w base spare held t v d ps) (mk : α → SV) (h1 : ∀ x, r.sv x = [mk x]) (hna : ∀ cs, v ≠ .agg cs) (hw : (d.weights P t).all (· ≤ reachBytes) = true) :
    ∃ x, (r.ok x ∧ r.rich x) ∧ VP (fun b => b < w.heap.size) w (mk x) v := by
  obtain ⟨fuel, hf⟩ := h
  obtain ⟨x, hx, hr, _, hcr⟩ := r.rd hf
  refine ⟨x, ⟨hx, hr hw⟩, hcr 0 (mk x) v (by rw [h1]; rfl) ?_⟩
  cases v <;> first | rfl | exact absurd rfl (hna _)
theorem Rd.agg' {α : Type} (r : Rd P t α) {fs : Array Field} (hu : P.underlying t = some (.struct fs)) {H : Type} {enc : TypeId × Value → H} {w : World} {base b0 : Nat} {spare : Nat → Bool} {held : Bool} {v : Value} {d : DataW H} {ps : List MemPlace} {rr : Reach} (hv : Value.okWide P w rr b0 t v)
    (h : DataW.Trod enc P w base spare held t v d ps) (hw : (d.weights P t).all (· ≤ reachBytes) = true) : ∃ x, (r.ok x ∧ r.rich x) ∧ VP (fun b => b < w.heap.size) w (.agg (r.sv x)) v := by
  obtain ⟨fuel, hf⟩ := h
  obtain ⟨x, hx, hr, hl, hcr⟩ := r.rd hf
  unfold Value.okWide at hv
  rw [hu] at hv
  obtain ⟨cs, rfl, hcs, _⟩ := hv
  have e : Value.cells (.agg cs) = cs := rfl
  rw [e] at hl hcr
  exact ⟨x, ⟨hx, hr hw⟩, .agg _ _ (by simpa using hl) fun i u y h1 h2 => hcr i u y h1 (by simpa using h2)⟩
theorem not_agg {k : TypeDesc} (hu : P.underlying t = some k) (hk : (match k with | .struct _ | .array _ _ => false | _ => true) = true) {w : World} {rr : Reach} {b0 : Nat} {v : Value} (hv : Value.okWide P w rr b0 t v) {H : Type} {enc : TypeId × Value → H} {base : Nat} {spare : Nat → Bool} {held : Bool}
    {d : DataW H} {ps : List MemPlace} (h : DataW.Trod enc P w base spare held t v d ps) : ∀ cs, v ≠ .agg cs := by
  intro cs hcs
  subst hcs
  unfold Value.okWide at hv
  rw [hu] at hv
  cases k <;> simp at hk <;> simp [Cell.okWide, Cell.ok, hu] at hv
end

/-- The arguments read behind the call as they did before. -/
theorem below_all {H : Type} {enc : TypeId × Value → H} {P : Program} (hl : laidOutB P = true) {W W' : World} (hb : Below W.heap.size W W') : ∀ {ts : List TypeId} {vs : List Value} {ds : List (DataW H)} {ps : List MemPlace},
    (ts.all fun t => P.readableRec t && decide (t < P.types.size)) = true → DataW.TrodAll enc P W 0 (fun _ => true) true ts vs ds ps → (∀ x ∈ ps, x.block < W.heap.size) → DataW.TrodAll enc P W' 0 (fun b => decide (b < W.heap.size)) true ts vs ds ps
  | [], [], [], ps, _, h, _ => h
  | t :: ts, v :: vs, d :: ds, ps, hall, ⟨p, q, h1, h2, he⟩, hlt => by
    subst he
    simp only [List.all_cons, Bool.and_eq_true, decide_eq_true_eq] at hall
    exact ⟨p, q, Below.trod hl hall.1.1 hall.1.2 h1 hb (fun x hx => hlt x (by simp [hx])), below_all hl hb hall.2 h2 (fun x hx => hlt x (by simp [hx])), rfl⟩
end Ab
namespace Ab
set_option linter.unusedVariables false
set_option linter.unusedSimpArgs false
open Go

structure Tab where
  nt : Nat
  code : ACode
  rs : List RV
structure TabOk (P : Program) (f : Nat) (t : Tab) : Prop where
  ok : ∃ fn code, P.funcs[f]? = some fn ∧ fn.body = some code ∧ ordsOk t.code = true ∧ erase t.code = cCode P fn.ntmps code ∧ cRes P fn.results.toList = some t.rs ∧ t.nt = fn.ntmps
theorem tabOk {P : Program} {f : Nat} {fn : Func} {code : Code} {t : Tab} (hf : P.funcs[f]? = some fn) (hb : fn.body = some code) (ho : ordsOk t.code = true) (hc : erase t.code = cCode P fn.ntmps code) (hr : cRes P fn.results.toList = some t.rs) (hn : t.nt = fn.ntmps) : TabOk P f t :=
  ⟨fn, code, hf, hb, ho, hc, hr, hn⟩
inductive TabsOk (P : Program) : List (Nat × Tab) → Prop
  | nil : TabsOk P []
  | cons {f : Nat} {t : Tab} {r : List (Nat × Tab)} (h : TabOk P f t) (hr : TabsOk P r) : TabsOk P ((f, t) :: r)

noncomputable section
def tabK (l : List (Nat × Tab)) (f : Nat) (k : Tab → Prop) : Prop :=
  @List.rec (Nat × Tab) (fun _ => Prop) False (fun x _ ih => @Bool.rec (fun _ => Prop) ih (k x.2) (Nat.beq x.1 f)) l
def restQ (Q : AExit → Env → Heap → Prop) (I : Env → Heap → Prop) : AExit → Env → Heap → Prop
  | .normal, e, h => I e h
  | x, e, h => Q x e h
def svEqL (eq : SV → SV → Bool) : List SV → List SV → Bool
  | [], [] => true
  | a :: r, b :: s => eq a b && svEqL eq r s
  | _, _ => false
def svEq : Nat → SV → SV → Bool
  | 0, _, _ => false
  | n+1, a, b => match a, b with
    | .bool a, .bool b => a == b
    | .int k a, .int k' b => kEq k k' && decide (a = b)
    | .str s, .str t => decide (s = t)
    | .nilp, .nilp => true
    | .ref i g x y, .ref i' g' x' y' => Nat.beq i i' && (Nat.beq g g' && (Nat.beq x x' && Nat.beq y y'))
    | .glob g, .glob g' => Nat.beq g g'
    | .nils, .nils => true
    | .sl i g a b c none, .sl i' g' a' b' c' none => Nat.beq i i' && (Nat.beq g g' && (Nat.beq a a' && (Nat.beq b b' && Nat.beq c c')))
    | .sl i g a b c (some d), .sl i' g' a' b' c' (some d') => Nat.beq i i' && (Nat.beq g g' && (Nat.beq a a' && (Nat.beq b b' && (Nat.beq c c' && Nat.beq d d'))))
    | .nilf, .nilf => true
    | .nili, .nili => true
    | .iface t v, .iface t' v' => Nat.beq t t' && svEq n v v'
    | .agg l, .agg l' => svEqL (svEq n) l l'
    | .tup l, .tup l' => svEqL (svEq n) l l'
    | _, _ => false
def lvl (P : Program) (T : List (Nat × Tab)) (n : Nat) : CallR × LoopR :=
  @Nat.rec (fun _ => CallR × LoopR) (⟨fun _ _ _ _ => False, fun v v' p => asr (svEq 8 v v') p⟩, fun _ _ _ _ => False)
    (fun _ ih => (⟨fun f a h k => tabK T f fun t => asr (Nat.ble a.length t.nt) (awpC P ih.1 ih.2 t.code (finQ t.rs k) (argEnv 0 a) h), fun v v' p => asr (svEq 8 v v') p⟩,
      fun b Q e h => awpC P ih.1 ih.2 b (restQ Q (ih.2 b Q)) e h)) n
end

theorem svEqL_eq {eq : SV → SV → Bool} (he : ∀ a b, eq a b = true → a = b) : ∀ {l m : List SV}, svEqL eq l m = true → l = m
  | [], [], _ => rfl
  | a :: r, b :: s, h => by
    simp only [svEqL, Bool.and_eq_true] at h
    rw [he a b h.1, svEqL_eq he h.2]
  | [], _ :: _, h => by cases h
  | _ :: _, [], h => by cases h
theorem svEq_eq : ∀ (n : Nat) (a b : SV), svEq n a b = true → a = b
  | 0, _, _, h => by cases h
  | n+1, a, b, h => by
    unfold svEq at h
    split at h
    all_goals try simp only [Bool.and_eq_true, beq_iff_eq, decide_eq_true_eq, kEq_iff, Nat.beq_eq] at h
    all_goals first
      | rfl
      | (cases h; done)
      | (obtain ⟨h1, h2⟩ := h; rw [h1, svEq_eq n _ _ h2]; done)
      | (rw [svEqL_eq (svEq_eq n) h]; done)
      | (simp_all; done)
theorem lvl_same {P : Program} {T : List (Nat × Tab)} : ∀ n v v' p, (lvl P T n).1.same v v' p → v = v' ∧ p
  | 0, v, v', p, h => by
    have h' := asr_iff.1 (show asr (svEq 8 v v') p from h)
    exact ⟨svEq_eq 8 _ _ h'.1, h'.2⟩
  | n+1, v, v', p, h => by
    have h' := asr_iff.1 (show asr (svEq 8 v v') p from h)
    exact ⟨svEq_eq 8 _ _ h'.1, h'.2⟩
theorem tabK_inv {P : Program} : ∀ {l : List (Nat × Tab)} {f : Nat} {k : Tab → Prop}, TabsOk P l → tabK l f k → ∃ t, TabOk P f t ∧ k t
  | [], f, k, _, h => h.elim
  | (g, t) :: r, f, k, .cons h1 h2, h => by
    have h' : @Bool.rec (fun _ => Prop) (tabK r f k) (k t) (Nat.beq g f) := h
    rcases brE h' with ⟨hb, hk⟩ | ⟨_, hk⟩
    · obtain rfl := Nat.eq_of_beq_eq_true hb
      exact ⟨t, h1, hk⟩
    · exact tabK_inv h2 hk

theorem ARound.fullC {P : Program} {Γ : CallR} {Λ : LoopR} (hΓ : Γ.Ok P) (hΛ : ∀ b Q e h, Λ b Q e h → ALoop P b Q e h) {b : ACode} {Q : AExit → Env → Heap → Prop} {I : Env → Heap → Prop} {m : Nat} {e : Env} {h : Heap}
    (hI : ∀ e h, I e h → ARound P b Q m e h) (hp : awpC P Γ Λ b (restQ Q I) e h) : ARound P b Q (m + 1) e h := by
  refine ⟨fun n code hmix hord hc c w a hr he hn => ?_⟩
  rw [rounds_succ]
  refine wp_mono (awpC_sound (n := n) hΓ hΛ hmix code b _ e h hord hc hp c w a hr he hn) fun ex a2 w2 hpost => ?_
  obtain ⟨c2, h2, e2, xx, hq, hr2, hx2, he2, hn2, hd2, hex⟩ := hpost
  cases ex with
  | normal =>
    cases xx <;> try exact hex.elim
    simp only [Exit.then]
    have := (hI _ _ hq).run n code hmix hord hc c2 w2 a2 hr2 he2 hn2
    rw [hd2] at this
    exact rounds_mono (fun _ _ _ hp2 => hp2.of hr hx2) m this
  | exit i => cases xx <;> first | exact hex.elim | exact ⟨c2, h2, e2, _, hq, hr2, hx2, he2, hn2, hd2, hex⟩
  | goto l => cases xx <;> exact hex.elim
  | ret => cases xx <;> first | exact hex.elim | exact ⟨c2, h2, e2, _, hq, hr2, hx2, he2, hn2, hd2, hex⟩
  | panic ch => cases xx <;> first | exact hex.elim | exact ⟨c2, h2, e2, _, hq, hr2, hx2, he2, hn2, hd2, hex⟩
  | outgrown => cases xx <;> exact hex.elim

/-- What the reckoning says is so. -/
theorem lvl_sound {P : Program} {T : List (Nat × Tab)} (hm : P.follows .mixedOrders = true) (hT : TabsOk P T) : ∀ n, (lvl P T n).1.Ok P ∧ (∀ b Q e h, (lvl P T n).2 b Q e h → ARound P b Q n e h)
  | 0 => ⟨⟨fun _ _ _ _ h => h.elim, lvl_same 0⟩, fun _ _ _ _ h => h.elim⟩
  | n + 1 => by
    obtain ⟨ih1, ih2⟩ := lvl_sound hm hT n
    have hΛ : ∀ b Q e h, (lvl P T n).2 b Q e h → ALoop P b Q e h := fun b Q e h hp => loop_rounds n (ih2 b Q e h hp)
    refine ⟨⟨fun f a h k hp => ?_, lvl_same (n + 1)⟩, fun b Q e h hp => ARound.fullC ih1 hΛ (fun e h hp => ih2 b Q e h hp) hp⟩
    have hp' : tabK T f fun t => asr (Nat.ble a.length t.nt) (awpC P (lvl P T n).1 (lvl P T n).2 t.code (finQ t.rs k) (argEnv 0 a) h) := hp
    obtain ⟨t, ⟨fn, code, hf, hb, ho, hc, hr, hn⟩, hp'⟩ := tabK_inv hT hp'
    replace hp' := asr_iff.1 hp'
    exact acall_of_awpC ih1 hΛ hm hf hb ho hc hr (by rw [← hn]; exact hp'.1) hp'.2

/-- A closed call, reckoned. -/
theorem pcall_lvl {P : Program} {T : List (Nat × Tab)} (hm : P.follows .mixedOrders = true) (hT : TabsOk P T) (n : Nat) {f : FuncId} {args : List SV} {v : SV} (ha : ∀ a ∈ args, LitV a) (hv : LitV v)
    (hp : (lvl P T n).1.call f args ⟨0, []⟩ (fun r _ => r = .ret v)) : PCall P f args v :=
  ⟨ha, ((lvl_sound hm hT n).1.call _ _ _ _ hp).mono fun r h' hr => ⟨v, hr, .lit hv⟩⟩
end Ab
