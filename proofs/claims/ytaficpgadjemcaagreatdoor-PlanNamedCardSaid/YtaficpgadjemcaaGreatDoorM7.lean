/- Parts of the proof of PnP, one behind the other. -/
import Derived.Test.YtaficpgadjemcaaGreatDoorM6
import Derived.Recover
import Derived.Test.YtaficpgadjemcaaGreatDoorProg
import Derived.KernelRfl
namespace Ab
set_option linter.unusedVariables false
set_option linter.unusedSimpArgs false
open Go
section
variable {P : Program} {Γ : CallR} {c : Cx} {h : Heap} {w : World} {n : Nat}
/-- What has been put off, the last one first. -/
def DR (c : Cx) (h : Heap) (w : World) (l : List SV) (ds : List Deferred) : Prop :=
  ds.length = l.length ∧ ∀ (i : Nat) (v : SV) (d : Deferred), l[i]? = some v → ds[i]? = some d → ∃ fn cap, d.target = .fn fn cap ∧ VR c h w v (.func fn d.args cap)
theorem DR.mono {c' : Cx} {h' : Heap} {w' : World} (hr : Rep c h w) (hx : Ext c h w c' h' w') {l : List SV} {ds : List Deferred} (hd : DR c h w l ds) : DR c' h' w' l ds :=
  ⟨hd.1, fun i v d hv hd' => let ⟨fn, cap, h1, h2⟩ := hd.2 i v d hv hd'; ⟨fn, cap, h1, h2.mono hr hx⟩⟩
theorem DR.nil : DR c h w [] [] := ⟨rfl, fun i v d hv => by simp at hv⟩
theorem DR.cons {l : List SV} {ds : List Deferred} (hd : DR c h w l ds) {v : SV} {d : Deferred} {fn : Fn} {cap : Array Value} (h1 : d.target = .fn fn cap) (h2 : VR c h w v (.func fn d.args cap)) : DR c h w (v :: l) (d :: ds) :=
  ⟨by simp [hd.1], fun i u e hu he => by
    cases i with
    | zero => simp at hu he; subst hu; subst he; exact ⟨fn, cap, h1, h2⟩
    | succ i => simp at hu he; exact hd.2 i u e hu he⟩
def PostD (c : Cx) (h : Heap) (w : World) (Q : AExit → Env → Heap → List SV → Prop) (n : Nat) (ex : Exit) (a' : Act) (w' : World) : Prop :=
  ∃ c' h' e' x ds, Q x e' h' ds ∧ Rep c' h' w' ∧ Ext c h w c' h' w' ∧ ER c' h' w' e' a'.tmps ∧ a'.tmps.size = n ∧ DR c' h' w' ds a'.defers ∧ ExR c' h' w' ex x
theorem PostD.of {Q : AExit → Env → Heap → List SV → Prop} {ex : Exit} {a' : Act} {w' : World} {c1 : Cx} {h1 : Heap} {w1 : World} (hr : Rep c h w) (hx : Ext c h w c1 h1 w1) (hp : PostD c1 h1 w1 Q n ex a' w') : PostD c h w Q n ex a' w' := by
  obtain ⟨c', h', e', x, ds, hq, hr', hx', rest⟩ := hp
  exact ⟨c', h', e', x, ds, hq, hr', hx.trans hr hx', rest⟩
end
noncomputable section
def opsD (P : Program) (Γ : CallR) (l : List AOper) : Env → Heap → List SV → (Env → Heap → List SV → Prop) → (SV → Env → Heap → List SV → Prop) → Prop :=
  @List.rec AOper (fun _ => Env → Heap → List SV → (Env → Heap → List SV → Prop) → (SV → Env → Heap → List SV → Prop) → Prop) (fun e h ds k _ => k e h ds)
    (fun o _ ih e h ds k kp => match o.op, o.guard with
      | .dfr f args, none => f.evK e fun f => match f with
        | .func fn first cap => evsK e args fun a => putD e o.dst .undef fun e' => ih e' h (.func fn (first ++ a) cap :: ds) k kp
        | _ => False
      | op, g => guardK e g
        (fun e => aop P Γ op e h (fun v h' => putD e o.dst v fun e' => ih e' h' ds k kp) (fun v h' => kp v e h' ds))
        (fun e => putD e o.dst (.tup []) fun e' => ih e' h ds k kp)) l
def blockQD (id : Nat) (Q : AExit → Env → Heap → List SV → Prop) : AExit → Env → Heap → List SV → Prop
  | .exit j, e, h, ds => @Bool.rec (fun _ => Prop) (Q (.exit j) e h ds) (Q .normal e h ds) (Nat.beq j id)
  | x, e, h, ds => Q x e h ds
def seqQD (k : Env → Heap → List SV → Prop) (Q : AExit → Env → Heap → List SV → Prop) : AExit → Env → Heap → List SV → Prop
  | .normal, e, h, ds => k e h ds
  | x, e, h, ds => Q x e h ds
def awpD (P : Program) (Γ : CallR) (Λ : LoopR) (code : ACode) : (AExit → Env → Heap → List SV → Prop) → Env → Heap → List SV → Prop :=
  @ACode.rec (fun _ => (AExit → Env → Heap → List SV → Prop) → Env → Heap → List SV → Prop)
    (fun Q e h ds => Q .normal e h ds)
    (fun ops fg Q e h ds => opsD P Γ ops e h ds (fun e' h' ds' => Env.dropsK fg e' fun e'' => Q .normal e'' h' ds') (fun v e' h' ds' => Q (.panic v) e' h' ds'))
    (fun ops ord fg Q e h ds => aopsD P Γ ops ord e h (fun e' h' => Env.dropsK fg e' fun e'' => Q .normal e'' h' ds) (fun v e' h' => Q (.panic v) e' h' ds))
    (fun _ _ a b Q e h ds => a (seqQD (b Q) Q) e h ds)
    (fun c _ _ a b Q e h ds => condK c e h (fun e h => a Q e h ds) (fun e h => b Q e h ds))
    (fun id _ b Q e h ds => b (blockQD id Q) e h ds)
    (fun b _ Q e h ds => Λ b (fun x e h => Q x e h ds) e h)
    (fun id Q e h ds => Q (.exit id) e h ds)
    (fun Q e h ds => Q .ret e h ds)
    (fun _ _ _ _ => False) code
abbrev DelR := FuncId → List SV → Option SV → Heap → (Option SV → Heap → Prop) → Prop
def leafK (P : Program) (Δ : DelR) (m : Option SV) (h : Heap) (k : Option SV → Heap → Prop) : SV → Prop
  | .func (.func f) a cap => asr (callable P f) (Δ f (a ++ cap) m h k)
  | _ => False
def leavesK (P : Program) (Δ : DelR) (rs : List RV) (R : AEnd → Heap → Prop) (l : List SV) : Option SV → Env → Heap → Prop :=
  @List.rec SV (fun _ => Option SV → Env → Heap → Prop)
    (fun m e h => match m with
      | none => resK rs e h fun vs => match vs with
        | [v] => R (.ret v) h
        | vs => R (.ret (.tup vs)) h
      | some v => R (.pan v) h)
    (fun d _ ih m e h => leafK P Δ m h (fun m' h' => ih m' e h') d) l
def finD (P : Program) (Δ : DelR) (rs : List RV) (R : AEnd → Heap → Prop) : AExit → Env → Heap → List SV → Prop
  | .normal, e, h, ds | .ret, e, h, ds => leavesK P Δ rs R ds none e h
  | .panic v, e, h, ds => leavesK P Δ rs R ds (some v) e h
  | .exit _, _, _, _ => False
end
def MR (c : Cx) (h : Heap) (w : World) : Option SV → FrameMode → Prop
  | none, .returning => True
  | some v, u => ∃ x, u = .panicking [{ v := x, recovered := false }] ∧ VR c h w v x
  | _, _ => False
theorem MR.mono {c c' : Cx} {h h' : Heap} {w w' : World} (hr : Rep c h w) (hx : Ext c h w c' h' w') {m : Option SV} {u : FrameMode} (hm : MR c h w m u) : MR c' h' w' m u := by
  cases m with
  | none => cases u <;> first | exact trivial | exact hm.elim
  | some v => obtain ⟨x, h1, h2⟩ := hm; exact ⟨x, h1, h2.mono hr hx⟩
/-- A call that was put off, in a function that returns, or panics. -/
structure ACallD (P : Program) (f : FuncId) (args : List SV) (m : Option SV) (h : Heap) (K : Option SV → Heap → Prop) : Prop where
  calls : ∀ (c : Cx) (w : World) (xs : Array Value) (u : FrameMode), Rep c h w → xs.size = args.length → (∀ (i : Nat) (v : SV) (x : Value), args[i]? = some v → xs[i]? = some x → VR c h w v x) → MR c h w m u →
    CallsD P f xs u w fun e u' w' => (∃ x, e = .returned x) ∧ ∃ c' h' m', K m' h' ∧ Rep c' h' w' ∧ Ext c h w c' h' w' ∧ MR c' h' w' m' (settle u')
def DelR.Ok (P : Program) (Δ : DelR) : Prop := ∀ f a m h K, Δ f a m h K → ACallD P f a m h K
section
variable {P : Program} {Γ : CallR} {Δ : DelR}
theorem settle_mr {c : Cx} {h : Heap} {w : World} {m : Option SV} {u : FrameMode} (hm : MR c h w m u) : settle u = u ∧ u ≠ .run := by
  cases m with
  | none => cases u <;> first | exact hm.elim | exact ⟨rfl, by simp⟩
  | some v => obtain ⟨x, rfl, _⟩ := hm; exact ⟨rfl, by simp⟩
theorem leaves_sound (hΔ : Δ.Ok P) {fn : Func} {rs : List RV} (hrs : cRes P fn.results.toList = some rs) {R : AEnd → Heap → Prop} {tmps : Array Value} {R' : Ending → World → Prop} {e : Env} : ∀ (l : List SV) (ds : List Deferred) (m : Option SV) (u : FrameMode) (c : Cx) (h : Heap) (w : World),
    leavesK P Δ rs R l m e h → Rep c h w → ER c h w e tmps → DR c h w l ds → MR c h w m u →
    (∀ c' h' w' r en, R r h' → Rep c' h' w' → Ext c h w c' h' w' → (match r with
      | .ret v => ∃ x, en = .returned x ∧ VR c' h' w' v x
      | .pan v => ∃ x, en = .panicked [{ v := x, recovered := false }] ∧ VR c' h' w' v x) → R' en w') → Leaves P fn tmps R' ds u w
  | [], ds, m, u, c, h, w, hp, hr, he, hd, hm, hR => by
    have : ds = [] := List.eq_nil_of_length_eq_zero hd.1
    subst this
    cases m with
    | none =>
      cases u with
      | returning =>
        obtain ⟨v, x, hk, hrun, hvx⟩ := results_run (P := P) (fn := fn) hr he hrs hp
        exact ⟨x, hrun, hR c h w (.ret v) _ hk hr .refl ⟨x, rfl, hvx⟩⟩
      | _ => exact hm.elim
    | some v =>
      obtain ⟨x, rfl, hvx⟩ := hm
      exact hR c h w (.pan v) _ hp hr .refl ⟨x, rfl, hvx⟩
  | d :: l, ds, m, u, c, h, w, hp, hr, he, hd, hm, hR => by
    cases ds with
    | nil => exact absurd hd.1 (by simp)
    | cons dd ds =>
    obtain ⟨fnv, cap, htar, hvf⟩ := hd.2 0 d dd rfl rfl
    have hd' : DR c h w l ds := ⟨by have := hd.1; simpa using this, fun i v q hv hq => hd.2 (i + 1) v q (by simpa using hv) (by simpa using hq)⟩
    have hp' : leafK P Δ m h (fun m' h' => leavesK P Δ rs R l m' e h') d := hp
    unfold leafK at hp'
    split at hp'
    · rename_i f aa cc
      obtain ⟨hcal, hp'⟩ := asr_iff.1 hp'
      obtain ⟨a', b', heq, ha, hb, hva, hvb⟩ := hvf.func_inv
      cases heq
      have hrun : (invoke dd.target dd.args).run P w = .ok (.enter f (dd.args ++ cap)) w := by
        rw [htar]
        exact callFunc_run hcal _
      refine ⟨(settle_mr hm).2, .func f, cap, f, dd.args ++ cap, htar, hrun, ?_⟩
      refine ((hΔ _ _ _ _ _ hp').calls c w (dd.args ++ cap) u hr (by rw [Array.size_append, List.length_append, ha, hb]) (fun i v x hv hx => ?_) hm).mono fun en u' w' hpost => ?_
      · rw [List.getElem?_append] at hv
        rw [Array.getElem?_append] at hx
        by_cases hi : i < aa.length
        · rw [if_pos hi] at hv
          rw [if_pos (by omega)] at hx
          exact hva i v x hv hx
        · rw [if_neg hi] at hv
          rw [if_neg (by omega)] at hx
          exact hvb (i - aa.length) v x hv (by rw [← ha]; exact hx)
      · obtain ⟨⟨x, rfl⟩, c', h', m', hk, hr', hx', hm'⟩ := hpost
        exact leaves_sound hΔ hrs l ds m' (settle u') c' h' w' hk hr' (he.mono hr hx') (hd'.mono hr hx') hm' fun c2 h2 w2 r en hR2 hr2 hx2 hen => hR c2 h2 w2 r en hR2 hr2 (hx'.trans hr hx2) hen
    · exact hp'.elim
theorem cOp_dfr {op : Op} {f : AOpd} {args : List AOpd} (h : cOp P op = .dfr f args) : ∃ cl fo, op = .defer cl ∧ cl.callee = .value fo ∧ f = cOpd fo ∧ args = cl.args.toList.map cOpd := by
  cases op with
  | defer cl =>
    simp only [cOp] at h
    split at h
    · rename_i fo hfo
      cases h
      exact ⟨cl, fo, rfl, hfo, rfl, rfl⟩
    · cases h
  | _ =>
    exfalso
    revert h
    simp only [cOp, cond_eq_ite]
    repeat' split
    all_goals intro h
    all_goals first
      | (cases h; done)
      | (cases ‹_ = Op.defer _›; done)
theorem opsD_sound (hΓ : Γ.Ok P) {n : Nat} {ops : Array Oper} {Q : Exit → Act → World → Prop} {k : Env → Heap → List SV → Prop} {kp : SV → Env → Heap → List SV → Prop} :
    ∀ (m j : Nat) (c : Cx) (h : Heap) (w : World) (e : Env) (a : Act) (ds : List SV), j + m = ops.size → opsD P Γ ((ops.toList.drop j).map (cOper P n ops false)) e h ds k kp → Rep c h w → ER c h w e a.tmps → a.tmps.size = n → DR c h w ds a.defers →
    (∀ e' h' ds' c' a' w', k e' h' ds' → Rep c' h' w' → Ext c h w c' h' w' → ER c' h' w' e' a'.tmps → a'.tmps.size = n → DR c' h' w' ds' a'.defers → Q .normal a' w') →
    (∀ v x e' h' ds' c' a' w', kp v e' h' ds' → Rep c' h' w' → Ext c h w c' h' w' → ER c' h' w' e' a'.tmps → a'.tmps.size = n → DR c' h' w' ds' a'.defers → VR c' h' w' v x → Q (.panic [{ v := x, recovered := false }]) a' w') →
    wpOps P ops Q (List.range' j m) a w
  | 0, j, c, h, w, e, a, ds, hj, hp, hr, he, hn, hd, hk, hkp => by
    have : ops.toList.drop j = [] := List.drop_eq_nil_iff.2 (by simp; omega)
    rw [this] at hp
    exact hk e h ds c a w hp hr .refl he hn hd
  | m+1, j, c, h, w, e, a, ds, hj, hp, hr, he, hn, hd, hk, hkp => by
    have hlt : j < ops.size := by omega
    have hdr : ops.toList.drop j = ops[j] :: ops.toList.drop (j + 1) := by
      rw [List.drop_eq_getElem_cons (by simpa using hlt)]
      simp
    rw [hdr, List.map_cons] at hp
    rw [List.range'_succ, wpOps_cons]
    have hp' : (match (cOper P n ops false ops[j]).op, (cOper P n ops false ops[j]).guard with
      | .dfr f args, none => f.evK e fun f => match f with
        | .func fn first cap => evsK e args fun aa => putD e (cOper P n ops false ops[j]).dst .undef fun e' => opsD P Γ ((ops.toList.drop (j + 1)).map (cOper P n ops false)) e' h (.func fn (first ++ aa) cap :: ds) k kp
        | _ => False
      | op, g => guardK e g
        (fun e => aop P Γ op e h (fun v h' => putD e (cOper P n ops false ops[j]).dst v fun e' => opsD P Γ ((ops.toList.drop (j + 1)).map (cOper P n ops false)) e' h' ds k kp) (fun v h' => kp v e h' ds))
        (fun e => putD e (cOper P n ops false ops[j]).dst (.tup []) fun e' => opsD P Γ ((ops.toList.drop (j + 1)).map (cOper P n ops false)) e' h ds k kp)) := hp
    split at hp'
    · rename_i f args hop hg
      -- a call is put off
      have hok : dstOk n ops[j] = true ∧ ops[j].guard = none ∧ (cOper P n ops false ops[j]).dst = ops[j].dst ∧ cOp P ops[j].op = .dfr f args := by
        unfold cOper at hop hg ⊢
        dsimp only at hop hg ⊢
        cases hdk : dstOk n ops[j]
        · rw [hdk] at hop; cases hop
        · rw [hdk] at hop hg
          simp only [cond_true] at hop hg ⊢
          cases hgg : ops[j].guard with
          | none => rw [hgg] at hop; exact ⟨trivial, rfl, rfl, hop⟩
          | some gw =>
            obtain ⟨q, want⟩ := gw
            rw [hgg] at hop hg
            dsimp only at hop hg
            split at hop
            · rename_i t ht
              cases hb : Nat.blt t n
              · rw [hb] at hop; cases hop
              · rw [ht] at hg
                dsimp only at hg
                rw [hb] at hg
                cases hg
            · cases hop
      obtain ⟨hdk, hgg, hdst, hcop⟩ := hok
      obtain ⟨cl, fo, hopd, hcal, rfl, rfl⟩ := cOp_dfr hcop
      simp only [evK_eq] at hp'
      have hf := he.ev fo
      split at hp'
      · rename_i fn first cap hev
        rw [hev] at hf
        obtain ⟨a', b', heq, ha, hb, hva, hvb⟩ := hf.func_inv
        simp only [evsK_eq, hdst, putD_eq] at hp'
        have hlt' : ∀ d, ops[j].dst = some d → d < n := fun d hdd => by
          unfold dstOk at hdk
          rw [hdd] at hdk
          exact Nat.lt_of_succ_le (by simpa [Nat.blt] using hdk)
        let d : Deferred := { target := .fn fn b', args := a' ++ cl.args.map a.eval }
        have hrun : (execOp a.eval ops[j]).run P w = .ok (.defer d) w := by
          simp [execOp, hopd, resolve, hcal, Deferred.ofValue, heq, d]
        unfold wpOp
        rw [Array.getElem?_eq_getElem hlt]
        dsimp only
        rw [if_pos (by simp [Region.wanted, hgg])]
        refine .inl ?_
        unfold Oper.wp
        rw [hrun, Oper.upon_defer]
        have hvd : VR c h w (.func fn (first ++ (cl.args.toList.map cOpd).map (AOpd.ev e)) cap) (.func fn d.args b') := by
          refine .func _ _ _ _ _ ?_ hb (fun i v y hv hy => ?_) hvb
          · show (a' ++ cl.args.map a.eval).size = _
            rw [Array.size_append, List.length_append, ha]; simp
          · rw [List.getElem?_append] at hv
            have hy : (a' ++ cl.args.map a.eval)[i]? = some y := hy
            rw [Array.getElem?_append] at hy
            by_cases hi : i < first.length
            · rw [if_pos hi] at hv
              rw [if_pos (by omega)] at hy
              exact hva i v y hv hy
            · rw [if_neg hi] at hv
              rw [if_neg (by omega)] at hy
              exact evs_rel he cl.args (i - first.length) v y hv (by rw [← ha]; exact hy)
        exact opsD_sound hΓ m (j + 1) c h w _ _ _ (by omega) hp' hr (ER.put (a := { a with defers := d :: a.defers }) he (fun t ht => by rw [hn]; exact hlt' t ht) .undef) (by rw [put_size]; exact hn) (by rw [put_defers]; exact hd.cons rfl hvd) hk hkp
      · exact hp'.elim
    · refine oper_wp hΓ (k := fun e' h' => opsD P Γ ((ops.toList.drop (j + 1)).map (cOper P n ops false)) e' h' ds k kp) (kp := fun v e' h' => kp v e' h' ds) (Array.getElem?_eq_getElem hlt) hr he hn hp' (fun e' h' c' a' w' hkk hr' hx he' hn' hdf => ?_) (fun v x e' h' c' w' hkk hr' hx he' hv => hkp v x e' h' ds c' a w' hkk hr' hx he' hn (hd.mono hr hx) hv)
      refine opsD_sound hΓ m (j + 1) c' h' w' e' a' ds (by omega) hkk hr' he' hn' (by rw [hdf]; exact hd.mono hr hx) (fun e2 h2 ds2 c2 a2 w2 hk2 hr2 hx2 he2 hn2 hd2 => ?_) (fun v x e2 h2 ds2 c2 a2 w2 hk2 hr2 hx2 he2 hn2 hd2 hv => ?_)
      · exact hk e2 h2 ds2 c2 a2 w2 hk2 hr2 (hx.trans hr hx2) he2 hn2 hd2
      · exact hkp v x e2 h2 ds2 c2 a2 w2 hk2 hr2 (hx.trans hr hx2) he2 hn2 hd2 hv
theorem postD_of_post {n : Nat} {c : Cx} {h : Heap} {w : World} {Q : AExit → Env → Heap → List SV → Prop} {a : Act} {ds : List SV} (hr : Rep c h w) (hd : DR c h w ds a.defers) {ex : Exit} {a' : Act} {w' : World}
    (hp : Post c h w (fun x e h => Q x e h ds) n a.defers ex a' w') : PostD c h w Q n ex a' w' := by
  obtain ⟨c', h', e', x, hq, hr', hx', he', hn', hd', hex⟩ := hp
  exact ⟨c', h', e', x, ds, hq, hr', hx', he', hn', by rw [hd']; exact hd.mono hr hx', hex⟩
theorem awpD_sound {Λ : LoopR} {n : Nat} (hΓ : Γ.Ok P) (hΛ : ∀ b Q e h, Λ b Q e h → ALoop P b Q e h) (hm : P.follows .mixedOrders = true) : ∀ (code : Code) (ac : ACode) (Q : AExit → Env → Heap → List SV → Prop) (e : Env) (h : Heap) (ds : List SV), ordsOk ac = true → erase ac = cCode P n code → awpD P Γ Λ ac Q e h ds →
    ∀ (c : Cx) (w : World) (a : Act), Rep c h w → ER c h w e a.tmps → a.tmps.size = n → DR c h w ds a.defers → code.wp P (PostD c h w Q n) a w
  | .skip, ac, Q, e, h, ds, ho, hc, hp => by
    cases ac <;> simp only [erase, cCode] at hc <;> try cases hc
    intro c w a hr he hn hd
    exact wp_skip ⟨c, h, e, .normal, ds, hp, hr, .refl, he, hn, hd, trivial⟩
  | .region id ops false, ac, Q, e, h, ds, ho, hc, hp => by
    simp only [cCode, cond_false] at hc
    cases ac <;> simp only [erase] at hc <;> try cases hc
    intro c w a hr he hn hd
    refine wp_region ?_
    rw [List.range_eq_range']
    refine opsD_sound hΓ ops.size 0 c h w e a ds (by simp) (by rw [List.drop_zero]; exact hp) hr he hn hd (fun e' h' ds' c' a' w' hk hr' hx he' hn' hd' => ?_) (fun v x e' h' ds' c' a' w' hk hr' hx he' hn' hd' hv => ?_)
    · rw [dropsK_eq] at hk
      exact ⟨c', h', _, .normal, ds', hk, hr', hx, he'.drops _, hn', hd', trivial⟩
    · exact ⟨c', h', e', .panic v, ds', hk, hr', hx, he', hn', hd', x, rfl, hv⟩
  | .region id ops true, ac, Q, e, h, ds, ho, hc, hp => by
    simp only [cCode, cond_true] at hc
    cases ac <;> simp only [erase] at hc <;> try cases hc
    intro c w a hr he hn hd
    refine dregion_wp hΓ hm ho hp hr he hn (fun e' h' c' a' w' hk hr' hx he' hn' hd' => ?_) (fun v x h' c' a' w' hk hr' hx hn' hd' hv => ?_)
    · rw [dropsK_eq] at hk
      exact ⟨c', h', _, .normal, ds, hk, hr', hx, he'.drops _, hn', by rw [hd']; exact hd.mono hr hx, trivial⟩
    · exact ⟨c', h', [], .panic v, ds, hk, hr', hx, fun t => .undef, hn', by rw [hd']; exact hd.mono hr hx, x, rfl, hv⟩
  | .seq x y, ac, Q, e, h, ds, ho, hc, hp => by
    cases ac <;> simp only [erase, cCode, ACode.seq.injEq, reduceCtorEq] at hc
    rename_i ax ay
    simp only [ordsOk, Bool.and_eq_true] at ho
    intro c w a hr he hn hd
    refine wp_seq (wp_mono (awpD_sound hΓ hΛ hm x ax _ e h ds ho.1 hc.1 hp c w a hr he hn hd) fun ex a' w' hpost => ?_)
    obtain ⟨c', h', e', xx, ds', hq, hr', hx', he', hn', hd', hex⟩ := hpost
    cases ex with
    | normal =>
      cases xx <;> try exact hex.elim
      simp only [Exit.then]
      exact wp_mono (awpD_sound hΓ hΛ hm y ay Q e' h' ds' ho.2 hc.2 hq c' w' a' hr' he' hn' hd') fun _ _ _ hp2 => hp2.of hr hx'
    | exit i => cases xx <;> first | exact hex.elim | exact ⟨c', h', e', _, ds', hq, hr', hx', he', hn', hd', hex⟩
    | goto l => cases xx <;> exact hex.elim
    | ret => cases xx <;> first | exact hex.elim | exact ⟨c', h', e', _, ds', hq, hr', hx', he', hn', hd', hex⟩
    | panic ch => cases xx <;> first | exact hex.elim | exact ⟨c', h', e', _, ds', hq, hr', hx', he', hn', hd', hex⟩
    | outgrown => cases xx <;> exact hex.elim
  | .cond cc x y, ac, Q, e, h, ds, ho, hc, hp => by
    cases ac <;> simp only [erase, cCode, ACode.cond.injEq, reduceCtorEq] at hc
    rename_i ac ax ay
    obtain ⟨hcc, hcx, hcy⟩ := hc
    simp only [ordsOk, Bool.and_eq_true] at ho
    intro c w a hr he hn hd
    have hv := he.ev cc
    rw [← hcc] at hv
    cases ac with
    | tmp t =>
      replace hp : condK (.tmp t) e h (fun e h => awpD P Γ Λ ax Q e h ds) (fun e h => awpD P Γ Λ ay Q e h ds) := hp
      simp only [condK, getK_eq] at hp
      have hev : (AOpd.tmp t).ev e = Env.get e t := rfl
      rw [hev] at hv
      split at hp
      · rename_i b hb
        rw [hb] at hv
        have hvb := hv.bool_inv
        refine wp_cond hvb ?_
        have hput : ∀ b', b' = b → ER c h w (Env.put e t (.bool b')) a.tmps := by
          rintro b' rfl u
          rw [get_put]
          by_cases hu : u = t
          · subst hu
            rw [if_pos rfl]
            have := he u
            rw [hb] at this
            exact this
          · rw [if_neg hu]; exact he u
        cases b <;> simp only [putK_eq] at hp
        · exact awpD_sound hΓ hΛ hm y ay Q _ h ds ho.2 hcy hp c w a hr (hput _ rfl) hn hd
        · exact awpD_sound hΓ hΛ hm x ax Q _ h ds ho.1 hcx hp c w a hr (hput _ rfl) hn hd
      · exact hp.elim
    | const v =>
      replace hp : condK (.const v) e h (fun e h => awpD P Γ Λ ax Q e h ds) (fun e h => awpD P Γ Λ ay Q e h ds) := hp
      simp only [condK] at hp
      have hev : (AOpd.const v).ev e = v := rfl
      rw [hev] at hv
      split at hp
      · have hvb := hv.bool_inv
        refine wp_cond hvb ?_
        rename_i b
        cases b
        · exact awpD_sound hΓ hΛ hm y ay Q _ h ds ho.2 hcy hp c w a hr he hn hd
        · exact awpD_sound hΓ hΛ hm x ax Q _ h ds ho.1 hcx hp c w a hr he hn hd
      · exact hp.elim
  | .block id b, ac, Q, e, h, ds, ho, hc, hp => by
    cases ac <;> simp only [erase, cCode, ACode.block.injEq, reduceCtorEq] at hc
    rename_i aid ab
    obtain ⟨rfl, hc⟩ := hc
    intro c w a hr he hn hd
    refine wp_block (wp_mono (awpD_sound hΓ hΛ hm b ab _ e h ds ho hc hp c w a hr he hn hd) fun ex a' w' hpost => ?_)
    obtain ⟨c', h', e', xx, ds', hq, hr', hx', he', hn', hd', hex⟩ := hpost
    cases ex with
    | normal => cases xx <;> first | exact hex.elim | exact ⟨c', h', e', _, ds', hq, hr', hx', he', hn', hd', hex⟩
    | exit i =>
      cases xx <;> try exact hex.elim
      rename_i j
      have hij : i = j := hex
      subst hij
      simp only [Exit.inBlock]
      rcases beq_cases i aid with ⟨hb, hb'⟩ | ⟨hb, hb'⟩
      · rw [if_pos hb']
        simp only [blockQD, hb] at hq
        exact ⟨c', h', e', .normal, ds', hq, hr', hx', he', hn', hd', trivial⟩
      · rw [if_neg hb']
        simp only [blockQD, hb] at hq
        exact ⟨c', h', e', .exit i, ds', hq, hr', hx', he', hn', hd', rfl⟩
    | goto l => cases xx <;> exact hex.elim
    | ret => cases xx <;> first | exact hex.elim | exact ⟨c', h', e', _, ds', hq, hr', hx', he', hn', hd', hex⟩
    | panic ch => cases xx <;> first | exact hex.elim | exact ⟨c', h', e', _, ds', hq, hr', hx', he', hn', hd', hex⟩
    | outgrown => cases xx <;> exact hex.elim
  | .loop b, ac, Q, e, h, ds, ho, hc, hp => by
    cases ac <;> simp only [erase, cCode, ACode.loop.injEq, reduceCtorEq] at hc
    intro c w a hr he hn hd
    exact wp_mono ((hΛ _ _ _ _ hp).run n b hm ho hc c w a hr he hn) fun _ _ _ hpost => postD_of_post hr hd hpost
  | .exit id, ac, Q, e, h, ds, ho, hc, hp => by
    cases ac <;> simp only [erase, cCode, ACode.exit.injEq, reduceCtorEq] at hc
    subst hc
    intro c w a hr he hn hd
    exact wp_exit ⟨c, h, e, .exit _, ds, hp, hr, .refl, he, hn, hd, rfl⟩
  | .ret, ac, Q, e, h, ds, ho, hc, hp => by
    cases ac <;> simp only [erase, cCode, reduceCtorEq] at hc
    intro c w a hr he hn hd
    exact wp_ret ⟨c, h, e, .ret, ds, hp, hr, .refl, he, hn, hd, trivial⟩
  | .rangeFunc _ _ _ _, ac, Q, e, h, ds, ho, hc, hp => by
    cases ac <;> simp only [erase, cCode, reduceCtorEq] at hc
    exact hp.elim
  | .scope _, ac, Q, e, h, ds, ho, hc, hp => by
    cases ac <;> simp only [erase, cCode, reduceCtorEq] at hc
    exact hp.elim
  | .label _, ac, Q, e, h, ds, ho, hc, hp => by
    cases ac <;> simp only [erase, cCode, reduceCtorEq] at hc
    exact hp.elim
  | .goto _, ac, Q, e, h, ds, ho, hc, hp => by
    cases ac <;> simp only [erase, cCode, reduceCtorEq] at hc
    exact hp.elim
  | .refuse _, ac, Q, e, h, ds, ho, hc, hp => by
    cases ac <;> simp only [erase, cCode, reduceCtorEq] at hc
    exact hp.elim
theorem args_er {c : Cx} {h : Heap} {w : World} {args : List SV} {xs : Array Value} {m : Nat} (hs : xs.size = args.length) (hn : args.length ≤ m) (hv : ∀ (i : Nat) (v : SV) (x : Value), args[i]? = some v → xs[i]? = some x → VR c h w v x) :
    ER c h w (argEnv 0 args) (xs ++ Array.replicate (m - xs.size) undef) := fun t => by
  rw [argEnv_get, if_pos (Nat.zero_le _), Nat.sub_zero]
  by_cases ht : t < args.length
  · have h1 : args[t]? = some args[t] := List.getElem?_eq_getElem ht
    have h2 : xs[t]? = some xs[t] := Array.getElem?_eq_getElem (by omega)
    have := hv t _ _ h1 h2
    have e1 : args.getD t .undef = args[t] := by simp [List.getD, h1]
    have e2 : (xs ++ Array.replicate (m - xs.size) undef).getD t undef = xs[t] := by
      rw [Array.getD_eq_getD_getElem?, Array.getElem?_append_left (by omega), h2]; rfl
    rw [e1, e2]
    exact this
  · have e1 : args.getD t .undef = .undef := by simp [List.getD, List.getElem?_eq_none (Nat.le_of_not_lt ht)]
    rw [e1]
    exact .undef
/-- A function that puts calls off. -/
theorem acall_of_awpD {Λ : LoopR} (hΓ : Γ.Ok P) (hΛ : ∀ b Q e h, Λ b Q e h → ALoop P b Q e h) (hΔ : Δ.Ok P) {f : FuncId} {fn : Func} {code : Code} {ac : ACode} {rs : List RV} {args : List SV} {h : Heap} {R : AEnd → Heap → Prop} (hm : P.follows .mixedOrders = true) (hf : P.funcs[f]? = some fn) (hb : fn.body = some code)
    (ho : ordsOk ac = true) (hc : erase ac = cCode P fn.ntmps code) (hrs : cRes P fn.results.toList = some rs) (hn : Nat.ble args.length fn.ntmps = true) (hp : awpD P Γ Λ ac (finD P Δ rs R) (argEnv 0 args) h []) : ACall P f args h R := by
  refine ⟨fun c w xs hr hs hv => ?_⟩
  have hn := Nat.le_of_ble_eq_true hn
  refine calls_of_wp_defers hf hb (wp_mono (awpD_sound (n := fn.ntmps) hΓ hΛ hm code ac _ _ h [] ho hc hp c w { tmps := xs ++ Array.replicate (fn.ntmps - xs.size) undef, defers := [] } hr (args_er hs hn hv) (by simp; omega) .nil) fun ex a' w' hpost => ?_)
  obtain ⟨c', h', e', xx, ds, hq, hr', hx', he', hn', hd', hex⟩ := hpost
  have post : ∀ (c2 : Cx) (h2 : Heap) (w2 : World) (r : AEnd) (en : Ending), R r h2 → Rep c2 h2 w2 → Ext c' h' w' c2 h2 w2 → (match r with
      | .ret v => ∃ x, en = .returned x ∧ VR c2 h2 w2 v x
      | .pan v => ∃ x, en = .panicked [{ v := x, recovered := false }] ∧ VR c2 h2 w2 v x) → ∃ c' h' r, R r h' ∧ Rep c' h' w2 ∧ Ext c h w c' h' w2 ∧ match r with
      | .ret v => ∃ x, en = .returned x ∧ VR c' h' w2 v x
      | .pan v => ∃ x, en = .panicked [{ v := x, recovered := false }] ∧ VR c' h' w2 v x :=
    fun c2 h2 w2 r en hR hr2 hx2 hen => ⟨c2, h2, r, hR, hr2, hx'.trans hr hx2, hen⟩
  cases ex with
  | normal => cases xx <;> first | exact hex.elim | exact leaves_sound hΔ hrs ds a'.defers none .returning c' h' w' hq hr' he' hd' trivial post
  | exit i => cases xx <;> first | exact hex.elim | exact hq.elim
  | goto l => cases xx <;> exact hex.elim
  | ret => cases xx <;> first | exact hex.elim | exact leaves_sound hΔ hrs ds a'.defers none .returning c' h' w' hq hr' he' hd' trivial post
  | panic ch =>
    cases xx <;> try exact hex.elim
    obtain ⟨x, rfl, hvx⟩ := hex
    exact leaves_sound hΔ hrs ds a'.defers (some _) (.panicking [{ v := x, recovered := false }]) c' h' w' hq hr' he' hd' ⟨x, rfl, hvx⟩ post
  | outgrown => cases xx <;> exact hex.elim
/-- A plain function, put off. -/
theorem acallD_of_awpC {Λ : LoopR} (hΓ : Γ.Ok P) (hΛ : ∀ b Q e h, Λ b Q e h → ALoop P b Q e h) {f : FuncId} {fn : Func} {code : Code} {ac : ACode} {rs : List RV} {args : List SV} {h : Heap} {m : Option SV} {K : Option SV → Heap → Prop} (hm : P.follows .mixedOrders = true) (hf : P.funcs[f]? = some fn) (hb : fn.body = some code)
    (ho : ordsOk ac = true) (hc : erase ac = cCode P fn.ntmps code) (hrs : cRes P fn.results.toList = some rs) (hn : Nat.ble args.length fn.ntmps = true) (hp : awpC P Γ Λ ac (finQ rs fun r h' => match r with | .ret _ => K m h' | .pan _ => False) (argEnv 0 args) h) : ACallD P f args m h K := by
  refine ⟨fun c w xs u hr hs hv hmr => ?_⟩
  have hn := Nat.le_of_ble_eq_true hn
  refine (callsD_of_wp (u := u) (R := fun e w' => (∃ x, e = .returned x) ∧ ∃ c' h', K m h' ∧ Rep c' h' w' ∧ Ext c h w c' h' w') hf hb (wp_mono (awpC_sound (n := fn.ntmps) hΓ hΛ hm code ac _ _ h ho hc hp c w { tmps := xs ++ Array.replicate (fn.ntmps - xs.size) undef, defers := [] } hr (args_er hs hn hv) (by simp; omega)) fun ex a' w' hpost => ?_)).mono fun e u' w' hh => ?_
  · obtain ⟨c', h', e', xx, hq, hr', hx', he', hn', hd', hex⟩ := hpost
    have fin : (resK rs e' h' fun vs => match vs with
        | [v] => (match AEnd.ret v with | .ret _ => K m h' | .pan _ => False)
        | vs => (match AEnd.ret (.tup vs) with | .ret _ => K m h' | .pan _ => False)) → a'.defers = [] ∧ ∃ v, (results fn a'.tmps).run P w' = .ok v w' ∧ (∃ x, Ending.returned v = .returned x) ∧ ∃ c' h', K m h' ∧ Rep c' h' w' ∧ Ext c h w c' h' w' := fun hq => by
      obtain ⟨v, x, hR, hrun, hvx⟩ := results_run (P := P) (fn := fn) (R := fun r h' => match r with | .ret _ => K m h' | .pan _ => False) hr' he' hrs hq
      exact ⟨hd', x, hrun, ⟨x, rfl⟩, c', h', hR, hr', hx'⟩
    cases ex with
    | normal => cases xx <;> first | exact hex.elim | exact fin hq
    | exit i => cases xx <;> first | exact hex.elim | exact hq.elim
    | goto l => cases xx <;> exact hex.elim
    | ret => cases xx <;> first | exact hex.elim | exact fin hq
    | panic ch => cases xx <;> first | exact hex.elim | exact hq.elim
    | outgrown => cases xx <;> exact hex.elim
  · obtain ⟨rfl, hret, c', h', hk, hr', hx'⟩ := hh
    exact ⟨hret, c', h', m, hk, hr', hx', by rw [(settle_mr hmr).1]; exact hmr.mono hr hx'⟩
end
end Ab
namespace Ab
set_option linter.unusedVariables false
set_option linter.unusedSimpArgs false
open Go
noncomputable section
def delQ (K : Option SV → Heap → Prop) (m : Option SV) : AEnd → Heap → Prop
  | .ret _, h => K m h
  | .pan _, _ => False
def caught : Option SV → SV
  | none => .nili
  | some v => v
/-- The number of the place that takes what is caught, if the code begins so. -/
def rcvD : ACode → Option (Nat × ACode)
  | .seq a b => match a with
    | .region ops _ => match ops with
      | o :: r => match r with
        | [] => match o.op with
          | .rcv => match o.guard with
            | none => match o.dst with
              | some d => some (d, b)
              | none => none
            | _ => none
          | _ => none
        | _ => none
      | _ => none
    | _ => none
  | _ => none
def delC (P : Program) (Γ : CallR) (Λ : LoopR) (code : ACode) (rs : List RV) (m : Option SV) (K : Option SV → Heap → Prop) (e : Env) (h : Heap) : Prop :=
  match rcvD code with
  | some (d, b) => putD e (some d) (caught m) fun e => awpC P Γ Λ b (finQ rs (delQ K none)) e h
  | none => awpC P Γ Λ code (finQ rs (delQ K m)) e h
def delK (P : Program) (T : List (Nat × Tab)) (Γ : CallR) (Λ : LoopR) : DelR := fun f a m h K => tabK T f fun t => asr (Nat.ble a.length t.nt) (delC P Γ Λ t.code t.rs m K (argEnv 0 a) h)
def orK (l : List (Nat × Tab)) (f : Nat) (k : Tab → Prop) (d : Prop) : Prop :=
  @List.rec (Nat × Tab) (fun _ => Prop) d (fun x _ ih => @Bool.rec (fun _ => Prop) ih (k x.2) (Nat.beq x.1 f)) l
def lvd (P : Program) (T TD : List (Nat × Tab)) (L : List Know) (n : Nat) : CallR × LoopR :=
  @Nat.rec (fun _ => CallR × LoopR) (⟨fun _ _ _ _ => False, fun v v' p => asr (lkB 8 v' v) p⟩, fun _ _ _ _ => False)
    (fun _ ih => (⟨fun f a h k => knowK L f a h k (orK TD f (fun t => asr (Nat.ble a.length t.nt) (awpD P ih.1 ih.2 t.code (finD P (delK P T ih.1 ih.2) t.rs k) (argEnv 0 a) h []))
        (tabK T f fun t => asr (Nat.ble a.length t.nt) (awpC P ih.1 ih.2 t.code (finQ t.rs k) (argEnv 0 a) h))), fun v v' p => asr (lkB 8 v' v) p⟩,
      fun b Q e h => awpC P ih.1 ih.2 b (restQ Q (ih.2 b Q)) e h)) n
end
theorem orK_inv {P : Program} {f : Nat} {k : Tab → Prop} {d : Prop} : ∀ {l : List (Nat × Tab)}, TabsOk P l → orK l f k d → (∃ t, TabOk P f t ∧ k t) ∨ d
  | [], _, hp => .inr hp
  | (g, t) :: r, .cons h1 h2, hp => by
    replace hp : @Bool.rec (fun _ => Prop) (orK r f k d) (k t) (Nat.beq g f) := hp
    rcases brE hp with ⟨hb, hq⟩ | ⟨_, hq⟩
    · obtain rfl := Nat.eq_of_beq_eq_true hb
      exact .inl ⟨t, h1, hq⟩
    · exact orK_inv h2 hq
theorem cOp_rcv {P : Program} {op : Op} (h : cOp P op = .rcv) : ∃ cl, op = .call cl ∧ cl.callee = .builtin .recover := by
  cases op with
  | call cl =>
    refine ⟨cl, rfl, ?_⟩
    revert h
    simp only [cOp, cond_eq_ite]
    repeat' split
    all_goals intro h
    all_goals first
      | assumption
      | (cases h; done)
  | _ =>
    exfalso
    revert h
    simp only [cOp, cond_eq_ite]
    repeat' split
    all_goals intro h
    all_goals first
      | (cases h; done)
      | (cases ‹_ = Op.call _›; done)
theorem cOper_none {P : Program} {n : Nat} {ops : Array Oper} {o : Oper} {p : AOp} (hop : (cOper P n ops false o).op = p) (hb : p ≠ .bad) (hg : (cOper P n ops false o).guard = none) :
    dstOk n o = true ∧ o.guard = none ∧ (cOper P n ops false o).dst = o.dst ∧ cOp P o.op = p := by
  unfold cOper at hop hg ⊢
  dsimp only at hop hg ⊢
  cases hdk : dstOk n o
  · rw [hdk] at hop; exact absurd hop.symm hb
  · rw [hdk] at hop hg
    simp only [cond_true] at hop hg ⊢
    cases hgg : o.guard with
    | none => rw [hgg] at hop; exact ⟨trivial, rfl, rfl, hop⟩
    | some gw =>
      obtain ⟨q, want⟩ := gw
      rw [hgg] at hop hg
      dsimp only at hop hg
      split at hop
      · rename_i t ht
        cases hbl : Nat.blt t n
        · rw [hbl] at hop; exact absurd hop.symm hb
        · rw [ht] at hg
          dsimp only at hg
          rw [hbl] at hg
          cases hg
      · exact absurd hop.symm hb
theorem rcvD_inv {code b : ACode} {d : Nat} (h : rcvD code = some (d, b)) : ∃ o fg, code = .seq (.region [o] fg) b ∧ o.op = .rcv ∧ o.guard = none ∧ o.dst = some d := by
  unfold rcvD at h
  repeat' split at h
  all_goals first
    | (cases h; done)
    | (cases h; exact ⟨_, _, rfl, by assumption, by assumption, by assumption⟩)
/-- A function that catches a panic first of all, put off. -/
theorem acallD_of_rcv {P : Program} {Γ : CallR} {Λ : LoopR} (hΓ : Γ.Ok P) (hΛ : ∀ b Q e h, Λ b Q e h → ALoop P b Q e h) {f : FuncId} {fn : Func} {code : Code} {ac ab : ACode} {d : Nat} {rs : List RV} {args : List SV} {h : Heap} {m : Option SV} {K : Option SV → Heap → Prop} (hm : P.follows .mixedOrders = true) (hf : P.funcs[f]? = some fn) (hb : fn.body = some code)
    (ho : ordsOk ac = true) (hc : erase ac = cCode P fn.ntmps code) (hrs : cRes P fn.results.toList = some rs) (hn : Nat.ble args.length fn.ntmps = true) (hac : rcvD ac = some (d, ab))
    (hp : awpC P Γ Λ ab (finQ rs (delQ K none)) (putE (argEnv 0 args) (some d) (caught m)) h) : ACallD P f args m h K := by
  refine ⟨fun c w xs u hr hs hv hmr => ?_⟩
  have hn := Nat.le_of_ble_eq_true hn
  obtain ⟨ao, fg, rfl, haop, hag, had⟩ := rcvD_inv hac
  have her := args_er hs hn hv
  have hsz : (xs ++ Array.replicate (fn.ntmps - xs.size) undef).size = fn.ntmps := by simp; omega
  cases code <;> simp only [erase, cCode, ACode.seq.injEq, reduceCtorEq] at hc
  · rename_i id ops dr; cases dr <;> simp only [cond_true, cond_false, reduceCtorEq] at hc
  rename_i x y
  obtain ⟨hx, hy⟩ := hc
  cases x <;> simp only [cCode, reduceCtorEq] at hx
  rename_i id ops dr
  cases dr <;> simp only [cond_true, cond_false, reduceCtorEq, ACode.region.injEq, and_true] at hx
  obtain ⟨ops⟩ := ops
  cases ops with
  | nil => simp at hx
  | cons o r =>
  cases r with
  | cons _ _ => simp at hx
  | nil =>
  simp only [List.map_cons, List.map_nil, List.cons.injEq, and_true] at hx
  subst hx
  obtain ⟨hdk, hgg, hdst, hcop⟩ := cOper_none haop (by intro h; cases h) hag
  obtain ⟨cl, hopd, hcal⟩ := cOp_rcv hcop
  rw [hdst] at had
  have hlt : d < fn.ntmps := by
    unfold dstOk at hdk
    rw [had] at hdk
    exact Nat.lt_of_succ_le (by simpa [Nat.blt] using hdk)
  have hrun : ∀ ev, (execOp ev o).run P w = .ok .recover w := fun ev => by
    simp [execOp, hopd, resolve, hcal, invoke, builtin]
  simp only [ordsOk, Bool.and_eq_true] at ho
  -- what is caught
  have key : ∀ (c₀ : Frame) (cs : List Frame), c₀.mode = u → ∃ u' x cs', (match recoverD (c₀ :: cs) with | some (v, cs') => x = v ∧ cs' = { c₀ with mode := u' } :: cs | none => x = .nilIface ∧ u' = u) ∧ cs' = { c₀ with mode := u' } :: cs ∧ VR c h w (caught m) x ∧ MR c h w none (settle u') := by
    intro c₀ cs hu
    cases m with
    | none =>
      cases u <;> try exact hmr.elim
      refine ⟨.returning, .nilIface, _, ?_, rfl, .pure .nili, trivial⟩
      simp [recoverD, hu]
    | some v =>
      obtain ⟨x, rfl, hvx⟩ := hmr
      refine ⟨.panicking [{ v := x, recovered := true }], x, _, ?_, rfl, hvx, trivial⟩
      simp [recoverD, hu]
  refine callsD_of_wpS hf hb fun c₀ cs hu => wpS_seq (wpS_region ?_)
  obtain ⟨u', x, cs', hrec, hcs, hvx, hmr'⟩ := key c₀ cs hu
  have rest : ∀ cs2, cs2 = { c₀ with mode := u' } :: cs → Exit.thenS (y.wpS P (bodyPostS P fn c₀ cs fun e u' w' => (∃ x, e = .returned x) ∧ ∃ c' h' m', K m' h' ∧ Rep c' h' w' ∧ Ext c h w c' h' w' ∧ MR c' h' w' m' (settle u')))
      (bodyPostS P fn c₀ cs fun e u' w' => (∃ x, e = .returned x) ∧ ∃ c' h' m', K m' h' ∧ Rep c' h' w' ∧ Ext c h w c' h' w' ∧ MR c' h' w' m' (settle u')) .normal (Act.put { tmps := xs ++ Array.replicate (fn.ntmps - xs.size) undef, defers := [] } o.dst x) cs2 w := by
    intro cs2 hcs2
    subst hcs2
    refine wpS_of_wp ?_
    refine wp_mono (awpC_sound (n := fn.ntmps) hΓ hΛ hm y ab _ _ h ho.2 hy hp c w _ hr ?_ ?_) fun ex a' w' hpost => ?_
    · rw [had]
      exact ER.put (a := { tmps := xs ++ Array.replicate (fn.ntmps - xs.size) undef, defers := [] }) her (fun t ht => by cases ht; show d < _; rw [hsz]; exact hlt) hvx
    · rw [put_size]; exact hsz
    · obtain ⟨c', h', e', xx, hq, hr', hx', he', hn', hd', hex⟩ := hpost
      have hd' : a'.defers = [] := by rw [hd', put_defers]
      have fin : (resK rs e' h' fun vs => match vs with
          | [v] => delQ K none (.ret v) h'
          | vs => delQ K none (.ret (.tup vs)) h') → a'.defers = [] ∧ ∃ u'', ({ c₀ with mode := u' } :: cs : List Frame) = { c₀ with mode := u'' } :: cs ∧ ∃ v, (results fn a'.tmps).run P w' = .ok v w' ∧ (∃ x, Ending.returned v = .returned x) ∧ ∃ c' h' m', K m' h' ∧ Rep c' h' w' ∧ Ext c h w c' h' w' ∧ MR c' h' w' m' (settle u'') := fun hq => by
        obtain ⟨v, x, hR, hrun, hvx⟩ := results_run (P := P) (fn := fn) (R := delQ K none) hr' he' hrs hq
        exact ⟨hd', u', rfl, x, hrun, ⟨x, rfl⟩, c', h', none, hR, hr', hx', hmr'.mono hr hx'⟩
      cases ex with
      | normal => cases xx <;> first | exact hex.elim | exact fin hq
      | exit i => cases xx <;> first | exact hex.elim | exact hq.elim
      | goto l => cases xx <;> exact hex.elim
      | ret => cases xx <;> first | exact hex.elim | exact fin hq
      | panic ch => cases xx <;> first | exact hex.elim | exact hq.elim
      | outgrown => cases xx <;> exact hex.elim
  have hrange : List.range (#[o] : Array Oper).size = [0] := rfl
  show wpOpsS P #[o] _ (List.range (#[o] : Array Oper).size) _ (c₀ :: cs) w
  rw [hrange]
  have h0 : (#[o] : Array Oper)[0]? = some o := rfl
  unfold wpOpsS
  rw [h0]
  dsimp only
  rw [if_pos (by simp [Region.wanted, hgg]), hrun]
  dsimp only
  cases hrc : recoverD (c₀ :: cs) with
  | none =>
    rw [hrc] at hrec
    obtain ⟨rfl, rfl⟩ := hrec
    exact rest _ (by cases c₀; cases hu; rfl)
  | some vc =>
    obtain ⟨v, cs2⟩ := vc
    rw [hrc] at hrec
    obtain ⟨rfl, hcs2⟩ := hrec
    exact rest cs2 hcs2
theorem delK_sound {P : Program} {T : List (Nat × Tab)} {Γ : CallR} {Λ : LoopR} (hm : P.follows .mixedOrders = true) (hT : TabsOk P T) (hΓ : Γ.Ok P) (hΛ : ∀ b Q e h, Λ b Q e h → ALoop P b Q e h) : (delK P T Γ Λ).Ok P := by
  intro f a m h K hp
  obtain ⟨t, ⟨fn, code, hf, hb, ho, hc, hr, hn⟩, hp⟩ := tabK_inv hT hp
  obtain ⟨hl, hp⟩ := asr_iff.1 hp
  rw [hn] at hl
  unfold delC at hp
  split at hp
  · rename_i d b hd
    rw [putD_eq] at hp
    exact acallD_of_rcv hΓ hΛ hm hf hb ho hc hr hl hd hp
  · exact acallD_of_awpC hΓ hΛ hm hf hb ho hc hr hl hp
theorem lvd_same {P : Program} {T TD : List (Nat × Tab)} {L : List Know} : ∀ n v v' p, (lvd P T TD L n).1.same v v' p → Lk v' v ∧ p
  | 0, v, v', p, h => by
    have h' := asr_iff.1 (show asr (lkB 8 v' v) p from h)
    exact ⟨lkB_lk 8 _ _ h'.1, h'.2⟩
  | n+1, v, v', p, h => by
    have h' := asr_iff.1 (show asr (lkB 8 v' v) p from h)
    exact ⟨lkB_lk 8 _ _ h'.1, h'.2⟩
theorem lvd_sound {P : Program} {T TD : List (Nat × Tab)} {L : List Know} (hm : P.follows .mixedOrders = true) (hT : TabsOk P T) (hD : TabsOk P TD) (hL : KnowsOk P L) : ∀ n, (lvd P T TD L n).1.Ok P ∧ (∀ b Q e h, (lvd P T TD L n).2 b Q e h → ARound P b Q n e h)
  | 0 => ⟨⟨fun _ _ _ _ h => h.elim, lvd_same 0⟩, fun _ _ _ _ h => h.elim⟩
  | n + 1 => by
    obtain ⟨ih1, ih2⟩ := lvd_sound hm hT hD hL n
    have hΛ : ∀ b Q e h, (lvd P T TD L n).2 b Q e h → ALoop P b Q e h := fun b Q e h hp => loop_rounds n (ih2 b Q e h hp)
    refine ⟨⟨fun f a h k hp => ?_, lvd_same (n + 1)⟩, fun b Q e h hp => ARound.fullC ih1 hΛ (fun e h hp => ih2 b Q e h hp) hp⟩
    have hp' : knowK L f a h k (orK TD f (fun t => asr (Nat.ble a.length t.nt) (awpD P (lvd P T TD L n).1 (lvd P T TD L n).2 t.code (finD P (delK P T (lvd P T TD L n).1 (lvd P T TD L n).2) t.rs k) (argEnv 0 a) h []))
        (tabK T f fun t => asr (Nat.ble a.length t.nt) (awpC P (lvd P T TD L n).1 (lvd P T TD L n).2 t.code (finQ t.rs k) (argEnv 0 a) h))) := hp
    rcases knowK_inv hL hp' with hc | hp'
    · exact hc
    · rcases orK_inv hD hp' with ⟨t, ⟨fn, code, hf, hb, ho, hc, hr, hn⟩, hp'⟩ | hp'
      · replace hp' := asr_iff.1 hp'
        exact acall_of_awpD ih1 hΛ (delK_sound hm hT ih1 hΛ) hm hf hb ho hc hr (by rw [← hn]; exact hp'.1) hp'.2
      · obtain ⟨t, ⟨fn, code, hf, hb, ho, hc, hr, hn⟩, hp'⟩ := tabK_inv hT hp'
        replace hp' := asr_iff.1 hp'
        exact acall_of_awpC ih1 hΛ hm hf hb ho hc hr (by rw [← hn]; exact hp'.1) hp'.2
/-- A call is known, for it was reckoned. -/
theorem rcall_lvd {P : Program} {T TD : List (Nat × Tab)} {L : List Know} (hm : P.follows .mixedOrders = true) (hT : TabsOk P T) (hD : TabsOk P TD) (hL : KnowsOk P L) (n : Nat) (k : Know) (h1 : (k.args.all (litB 8) && (firmB 8 k.v && firmL k.H)) = true)
    (hp : (lvd P T TD L n).1.call k.f k.args ⟨0, []⟩ (fun r h => endR k.v k.N k.H r h = true)) : RCall P k.f k.args k.v k.N k.H := by
  simp only [Bool.and_eq_true] at h1
  refine ⟨fun a ha => litB_lit 8 a (List.all_eq_true.1 h1.1 a ha), h1.2.1, h1.2.2, ((lvd_sound hm hT hD hL n).1.call _ _ _ _ hp).mono fun r h' hr => ?_⟩
  unfold endR at hr
  split at hr
  · simp only [Bool.and_eq_true] at hr
    exact ⟨by rw [svEq_eq 8 _ _ hr.1], Nat.eq_of_beq_eq_true hr.2.1, fun i o ho => subH_sub hr.2.2 i o ho⟩
  · cases hr
/-- A closed call that comes to a plain value. -/
theorem pcall_lvd {P : Program} {T TD : List (Nat × Tab)} {L : List Know} (hm : P.follows .mixedOrders = true) (hT : TabsOk P T) (hD : TabsOk P TD) (hL : KnowsOk P L) (n : Nat) {f : FuncId} {args : List SV} {v : SV} (ha : ∀ a ∈ args, LitV a) (hv : LitV v)
    (hp : (lvd P T TD L n).1.call f args ⟨0, []⟩ (fun r _ => r = .ret v)) : PCall P f args v :=
  ⟨ha, ((lvd_sound hm hT hD hL n).1.call _ _ _ _ hp).mono fun r h' hr => ⟨v, hr, .lit hv⟩⟩
end Ab
namespace Ab
set_option linter.unusedVariables false
set_option linter.unusedSimpArgs false
open Go
/-- What a loop over a map leaves: at its head the heap's next name is 'at_'; it goes out by 'out'; the places in 'gone' are forgotten; 'rm' leaves memory, 'chg' is written, 'new' is new, the next name is 'nxt'. -/
structure Hint where
  at_ : Nat
  out : Nat
  gone : List Nat
  rm : List Nat
  chg : List (Nat × AObj)
  new : List (Nat × AObj)
  nxt : Nat
noncomputable section
def dropE (D : List Nat) : Env → Env
  | [] => []
  | (t, v) :: r => bif memB D t then dropE D r else (t, v) :: dropE D r
def dropEK (D : List Nat) (e : Env) (k : Env → Prop) : Prop :=
  @List.rec (Nat × SV) (fun _ => (Env → Prop) → Prop) (fun k => k []) (fun x _ ih k => @Bool.rec (fun _ => Prop) (ih fun r => k (x :: r)) (ih k) (memB D x.1)) e k
def endM (j : Nat) (e1 : Env) (N : Nat) (H : List (Nat × AObj)) (x : AExit) (e' : Env) (h' : Heap) : Bool := match x with
  | .exit i => Nat.beq i j && (envB e' e1 && (Nat.beq h'.nxt N && subLk H h'.l))
  | _ => false
def rmAll (l : List (Nat × AObj)) (rm : List Nat) (k : List (Nat × AObj) → Prop) : Prop :=
  @List.rec Nat (fun _ => List (Nat × AObj) → Prop) k (fun i _ ih l => dropO l i ih) rm l
def chgAll (l : List (Nat × AObj)) (chg : List (Nat × AObj)) (k : List (Nat × AObj) → Prop) : Prop :=
  @List.rec (Nat × AObj) (fun _ => List (Nat × AObj) → Prop) k (fun x _ ih l => setO l x.1 x.2 ih) chg l
def pushAll (l : List (Nat × AObj)) (new : List (Nat × AObj)) (k : List (Nat × AObj) → Prop) : Prop :=
  @List.rec (Nat × AObj) (fun _ => List (Nat × AObj) → Prop) k (fun x _ ih l => ih (x :: l)) new l
def hintK (M : List Hint) (n : Nat) (k : Hint → Prop) (d : Prop) : Prop :=
  @List.rec Hint (fun _ => Prop) d (fun x _ ih => @Bool.rec (fun _ => Prop) ih (k x) (Nat.beq x.at_ n)) M
abbrev LV := CallR × LoopR × LoopR
/-- Does the loop's body begin by asking a map for its next entry? -/
def nextFirst : ACode → Bool
  | .seq a _ => match a with
    | .region ops _ => match ops with
      | o :: _ => match o.op with
        | .nextM _ => true
        | _ => false
      | _ => false
    | _ => false
  | _ => false
def plainM (P : Program) (ih : LV) : LoopR := fun b Q e h => awpC P ih.1 ih.2.1 b (restQ Q (ih.2.2 b Q)) e h
def loopM (P : Program) (M : List Hint) (ih : LV) : LoopR := fun b Q e h =>
  @Bool.rec (fun _ => Prop) (plainM P ih b Q e h) (match h with
    | ⟨n, l⟩ => hintK M n (fun t => dropEK t.gone e fun e1 => rmAll l t.rm fun l => chgAll l t.chg fun l => pushAll l t.new fun l =>
        plainM P ih b (fun x e' h' => endM t.out e1 t.nxt l x e' h' = true) e h ∧ Q (.exit t.out) e1 ⟨t.nxt, l⟩)
      (plainM P ih b Q e h)) (nextFirst b)
def lvm (P : Program) (T TD : List (Nat × Tab)) (L : List Know) (M : List Hint) (n : Nat) : LV :=
  @Nat.rec (fun _ => LV) (⟨fun _ _ _ _ => False, fun v v' p => asr (lkB 8 v' v) p⟩, fun _ _ _ _ => False, fun _ _ _ _ => False)
    (fun _ ih => (⟨fun f a h k => knowK L f a h k (orK TD f (fun t => asr (Nat.ble a.length t.nt) (awpD P ih.1 ih.2.1 t.code (finD P (delK P T ih.1 ih.2.1) t.rs k) (argEnv 0 a) h []))
        (tabK T f fun t => asr (Nat.ble a.length t.nt) (awpC P ih.1 ih.2.1 t.code (finQ t.rs k) (argEnv 0 a) h))), fun v v' p => asr (lkB 8 v' v) p⟩,
      loopM P M ih, plainM P ih)) n
/-- What the kernel finds: for each map gone through, all its orders; then the rest. -/
def repP (p : Prop) : Nat → Prop
  | 0 => True
  | n+1 => p ∧ repP p n
def permP : Nat → Prop
  | 0 => true = true
  | n+1 => repP (permP n) (n + 1)
def mapsP (q : Prop) : List Nat → Prop
  | [] => q
  | n :: r => permP n ∧ mapsP q r
/-- The same where no hint is given: the rest behind each order. -/
def permQ (q : Prop) : Nat → Prop
  | 0 => q
  | n+1 => repP (permQ q n) (n + 1)
def permQs (q : Prop) : List Nat → Prop
  | [] => q
  | n :: r => permQ (permQs q r) n
end
theorem repP_ok {p : Prop} (hp : p) : ∀ n, repP p n
  | 0 => trivial
  | n+1 => ⟨hp, repP_ok hp n⟩
theorem permP_ok : ∀ n, permP n
  | 0 => rfl
  | n+1 => repP_ok (permP_ok n) (n + 1)
theorem permQ_ok {q : Prop} (h : q) : ∀ n, permQ q n
  | 0 => h
  | n+1 => repP_ok (permQ_ok h n) (n + 1)
theorem permQs_ok {q : Prop} (h : q) : ∀ l, permQs q l
  | [] => h
  | n :: r => permQ_ok (permQs_ok h r) n
theorem mapsP_ok {q : Prop} (h : q) : ∀ l, mapsP q l
  | [] => h
  | n :: r => ⟨permP_ok n, mapsP_ok h r⟩
theorem dropEK_eq (D : List Nat) : ∀ (e : Env) (k : Env → Prop), dropEK D e k = k (dropE D e)
  | [], k => rfl
  | (t, v) :: r, k => by
    show @Bool.rec (fun _ => Prop) (dropEK D r fun r' => k ((t, v) :: r')) (dropEK D r k) (memB D t) = _
    unfold dropE
    cases memB D t
    · exact dropEK_eq D r _
    · exact dropEK_eq D r _
theorem rmAll_inv {k : List (Nat × AObj) → Prop} : ∀ {rm : List Nat} {l : List (Nat × AObj)}, rmAll l rm k → ∃ l', k l'
  | [], l, h => ⟨l, h⟩
  | i :: r, l, h => by
    have h : dropO l i fun l' => rmAll l' r k := h
    have : ∀ {l : List (Nat × AObj)} {q : List (Nat × AObj) → Prop}, dropO l i q → ∃ l', q l' := fun {l} => by
      induction l with
      | nil => intro q h; exact ⟨_, h⟩
      | cons x t ih =>
        intro q h
        obtain ⟨s, o⟩ := x
        unfold dropO at h
        rcases brE h with ⟨_, h⟩ | ⟨_, h⟩
        · exact ih h
        · obtain ⟨l', h'⟩ := ih h; exact ⟨_, h'⟩
    obtain ⟨l', h'⟩ := this h
    exact rmAll_inv h'
theorem chgAll_inv {k : List (Nat × AObj) → Prop} : ∀ {chg l : List (Nat × AObj)}, chgAll l chg k → ∃ l', k l'
  | [], l, h => ⟨l, h⟩
  | x :: r, l, h => by
    have h : setO l x.1 x.2 fun l' => chgAll l' r k := h
    rw [setO_eq] at h
    exact chgAll_inv h
theorem pushAll_inv {k : List (Nat × AObj) → Prop} : ∀ {new l : List (Nat × AObj)}, pushAll l new k → ∃ l', k l'
  | [], l, h => ⟨l, h⟩
  | x :: r, l, h => pushAll_inv (show pushAll (x :: l) r k from h)
theorem hintK_inv {n : Nat} {k : Hint → Prop} {d : Prop} : ∀ {M : List Hint}, hintK M n k d → (∃ t, k t) ∨ d
  | [], h => .inr h
  | x :: r, h => by
    replace h : @Bool.rec (fun _ => Prop) (hintK r n k d) (k x) (Nat.beq x.at_ n) := h
    rcases brE h with ⟨_, h⟩ | ⟨_, h⟩
    · exact .inl ⟨x, h⟩
    · exact hintK_inv h
/-- The loop leaves the same behind, whatever way it went. -/
theorem ALoop.ends {P : Program} {b : ACode} {Q : AExit → Env → Heap → Prop} {e e1 : Env} {h : Heap} {j N : Nat} {H : List (Nat × AObj)} (hl : ALoop P b (fun x e' h' => endM j e1 N H x e' h' = true) e h) (hq : Q (.exit j) e1 ⟨N, H⟩) : ALoop P b Q e h :=
  ⟨fun n code hm ho hc c w a hr he hn => wp_mono (hl.run n code hm ho hc c w a hr he hn) fun ex a' w' hpost => by
    obtain ⟨c', h', e', x, hx, hr', hext, he', hn', hd', hex⟩ := hpost
    unfold endM at hx
    split at hx
    · rename_i i
      simp only [Bool.and_eq_true] at hx
      obtain ⟨h1, h2, h3, h4⟩ := hx
      obtain rfl := Nat.eq_of_beq_eq_true h1
      have hs : HLe ⟨N, H⟩ h' := ⟨(Nat.eq_of_beq_eq_true h3).symm, fun i o ho => subLk_sub h4 i o ho⟩
      refine ⟨c', ⟨N, H⟩, e1, .exit i, hq, hr'.hle hs, hext.trans hr (Ext.hle hs), fun t => ?_, hn', hd', by cases ex <;> first | exact hex | exact hex.elim⟩
      rcases envB_get h2 t with hg | hg
      · rw [hg]; exact .undef
      · exact (hg.vr (he' t)).hle hs
    · cases hx⟩
theorem lvm_same {P : Program} {T TD : List (Nat × Tab)} {L : List Know} {M : List Hint} : ∀ n v v' p, (lvm P T TD L M n).1.same v v' p → Lk v' v ∧ p
  | 0, v, v', p, h => by
    have h' := asr_iff.1 (show asr (lkB 8 v' v) p from h)
    exact ⟨lkB_lk 8 _ _ h'.1, h'.2⟩
  | n+1, v, v', p, h => by
    have h' := asr_iff.1 (show asr (lkB 8 v' v) p from h)
    exact ⟨lkB_lk 8 _ _ h'.1, h'.2⟩
theorem lvm_sound {P : Program} {T TD : List (Nat × Tab)} {L : List Know} {M : List Hint} (hm : P.follows .mixedOrders = true) (hT : TabsOk P T) (hD : TabsOk P TD) (hL : KnowsOk P L) : ∀ n, (lvm P T TD L M n).1.Ok P ∧ (∀ b Q e h, (lvm P T TD L M n).2.1 b Q e h → ALoop P b Q e h) ∧ (∀ b Q e h, (lvm P T TD L M n).2.2 b Q e h → ARound P b Q n e h)
  | 0 => ⟨⟨fun _ _ _ _ h => h.elim, lvm_same 0⟩, fun _ _ _ _ h => h.elim, fun _ _ _ _ h => h.elim⟩
  | n + 1 => by
    obtain ⟨ih1, ih2, ih3⟩ := lvm_sound (M := M) hm hT hD hL n
    have plain : ∀ b Q e h, plainM P (lvm P T TD L M n) b Q e h → ARound P b Q (n + 1) e h := fun b Q e h hp => ARound.fullC ih1 ih2 (fun e h hp => ih3 b Q e h hp) hp
    have plainL : ∀ b Q e h, plainM P (lvm P T TD L M n) b Q e h → ALoop P b Q e h := fun b Q e h hp => loop_rounds (n + 1) (plain b Q e h hp)
    refine ⟨⟨fun f a h k hp => ?_, lvm_same (n + 1)⟩, fun b Q e h hp => ?_, fun b Q e h hp => plain b Q e h hp⟩
    · have hp' : knowK L f a h k (orK TD f (fun t => asr (Nat.ble a.length t.nt) (awpD P (lvm P T TD L M n).1 (lvm P T TD L M n).2.1 t.code (finD P (delK P T (lvm P T TD L M n).1 (lvm P T TD L M n).2.1) t.rs k) (argEnv 0 a) h []))
        (tabK T f fun t => asr (Nat.ble a.length t.nt) (awpC P (lvm P T TD L M n).1 (lvm P T TD L M n).2.1 t.code (finQ t.rs k) (argEnv 0 a) h))) := hp
      rcases knowK_inv hL hp' with hc | hp'
      · exact hc
      · rcases orK_inv hD hp' with ⟨t, ⟨fn, code, hf, hb, ho, hc, hr, hn⟩, hp'⟩ | hp'
        · replace hp' := asr_iff.1 hp'
          exact acall_of_awpD ih1 ih2 (delK_sound hm hT ih1 ih2) hm hf hb ho hc hr (by rw [← hn]; exact hp'.1) hp'.2
        · obtain ⟨t, ⟨fn, code, hf, hb, ho, hc, hr, hn⟩, hp'⟩ := tabK_inv hT hp'
          replace hp' := asr_iff.1 hp'
          exact acall_of_awpC ih1 ih2 hm hf hb ho hc hr (by rw [← hn]; exact hp'.1) hp'.2
    · obtain ⟨nx, l⟩ := h
      replace hp : @Bool.rec (fun _ => Prop) (plainM P (lvm P T TD L M n) b Q e ⟨nx, l⟩) (hintK M nx (fun t => dropEK t.gone e fun e1 => rmAll l t.rm fun l' => chgAll l' t.chg fun l' => pushAll l' t.new fun l' =>
        plainM P (lvm P T TD L M n) b (fun x e' h' => endM t.out e1 t.nxt l' x e' h' = true) e ⟨nx, l⟩ ∧ Q (.exit t.out) e1 ⟨t.nxt, l'⟩)
        (plainM P (lvm P T TD L M n) b Q e ⟨nx, l⟩)) (nextFirst b) := hp
      rcases brE hp with ⟨_, hp⟩ | ⟨_, hp⟩
      · rcases hintK_inv hp with ⟨t, hp⟩ | hp
        · rw [dropEK_eq] at hp
          obtain ⟨_, hp⟩ := rmAll_inv hp
          obtain ⟨_, hp⟩ := chgAll_inv hp
          obtain ⟨_, h1, h2⟩ := pushAll_inv hp
          exact (plainL _ _ _ _ h1).ends h2
        · exact plainL _ _ _ _ hp
      · exact plainL _ _ _ _ hp
/-- A call is known, for it was reckoned. -/
theorem rcall_lvm {P : Program} {T TD : List (Nat × Tab)} {L : List Know} (M : List Hint) (l : List Nat) (hm : P.follows .mixedOrders = true) (hT : TabsOk P T) (hD : TabsOk P TD) (hL : KnowsOk P L) (n : Nat) (k : Know) (h1 : (k.args.all (litB 8) && (firmB 8 k.v && firmL k.H)) = true)
    (hp : (lvm P T TD L M n).1.call k.f k.args ⟨0, []⟩ (fun r h => endR k.v k.N k.H r h = true)) : RCall P k.f k.args k.v k.N k.H := by
  simp only [Bool.and_eq_true] at h1
  refine ⟨fun a ha => litB_lit 8 a (List.all_eq_true.1 h1.1 a ha), h1.2.1, h1.2.2, ((lvm_sound hm hT hD hL n).1.call _ _ _ _ hp).mono fun r h' hr => ?_⟩
  unfold endR at hr
  split at hr
  · simp only [Bool.and_eq_true] at hr
    exact ⟨by rw [svEq_eq 8 _ _ hr.1], Nat.eq_of_beq_eq_true hr.2.1, fun i o ho => subH_sub hr.2.2 i o ho⟩
  · cases hr
/-- A closed call that comes to a plain value. -/
theorem pcall_lvm {P : Program} {T TD : List (Nat × Tab)} {L : List Know} (M : List Hint) (hm : P.follows .mixedOrders = true) (hT : TabsOk P T) (hD : TabsOk P TD) (hL : KnowsOk P L) (n : Nat) {f : FuncId} {args : List SV} {v : SV} (ha : ∀ a ∈ args, LitV a) (hv : LitV v)
    (hp : (lvm P T TD L M n).1.call f args ⟨0, []⟩ (fun r _ => r = .ret v)) : PCall P f args v :=
  ⟨ha, ((lvm_sound hm hT hD hL n).1.call _ _ _ _ hp).mono fun r h' hr => ⟨v, hr, .lit hv⟩⟩
end Ab
namespace Go.Proofs.YtaficpgadjemcaaGreatDoor
open Ab
set_option maxRecDepth 1000000
def aO (d : Nat) (o : AOp) : AOper := ⟨some d,o,none,[]⟩
def aT (t : Nat) : AOpd := .tmp t
def aI (n : Int) : AOpd := .const (.int .i64 n)
def aM (d t : Nat) : AOper := ⟨some d,.mov (.tmp t),none,[]⟩
def aS (n x v : Nat) : AOper := ⟨none,.store n (.tmp x) (.tmp v),none,[]⟩
def aL (d x : Nat) : AOper := ⟨some d,.loadS (.tmp x),none,[]⟩
def aF (d n x : Nat) : AOper := ⟨some d,.fieldAddr n (.tmp x),none,[]⟩
def aR (l : List AOper) (f : List Nat) (k : ACode) : ACode := .seq (.region l f) k
theorem tk {f : Nat} {fn : Go.Func} {t : Tab} (hf : Tryz.prog.funcs[f]? = some fn) (hb : (ordsOk t.code && (fn.body.isSome && Nat.beq t.nt fn.ntmps)) = true) (hc : erase t.code = cCode Tryz.prog fn.ntmps (fn.body.getD .skip)) (hr : cRes Tryz.prog fn.results.toList = some t.rs) : TabOk Tryz.prog f t := by
  simp only [Bool.and_eq_true] at hb
  obtain ⟨h1, h2, h3⟩ := hb
  obtain ⟨code, h4⟩ := Option.isSome_iff_exists.1 h2
  exact tabOk hf h4 h1 (by rw [hc, h4]; rfl) hr (Nat.eq_of_beq_eq_true h3)
def q12 : List SV := [(.agg [(.str [97]),(.int .u8 2),(.bool true)]),(.agg [(.str [98]),(.int .u8 2),(.bool true)]),(.agg [(.str [99]),(.int .u8 2),(.bool false)])]
def q1 : SV := .agg [(lstOf 5 [(.agg [(.str [116]),(.int .i64 1),(lstOf 3 q12),(lstOf 1 [(.int .i64 0),(.int .i64 1)]),(lstOf 4 [(.agg [(.str [105]),(.int .i64 1),(lstOf 1 [(.int .i64 2)]),(.bool false)])])])])]
def q2 : List SV := [(.str [99,114,101,97,116,101,32,116,97,98,108,101,32,116,32,40,32,97,32,105,110,116,32,44,32,98,32,105,110,116,32,44,32,99,32,105,110,116,32,44,32,112,114,105,109,97,114,121,32,107,101,121,32,40,32,97,32,44,32,98,32,41,32,41,32,59,10,99,114,101,97,116,101,32,105,110,100,101,120,32,105,32,111,110,32,116,32,40,32,99,32,41,32,59,10])]
def q3 : List SV := [(.str [99,114,101,97,116,101,32,116,97,98,108,101,32,116,32,40,32,97,32,105,110,116,32,44,32,98,32,105,110,116,32,44,32,99,32,105,110,116,32,44,32,112,114,105,109,97,114,121,32,107,101,121,32,40,32,97,32,44,32,98,32,41,32,41,32,59,32,99,114,101,97,116,101,32,105,110,100,101,120,32,105,32,111,110,32,116,32,40,32,99,32,41,32,59])]
def q5 : List SV := [(.int .u8 0),(.str []),(.str []),.nils,.nils,(.bool false),.nils,.nils,.nils,.nils,(.int .u8 0),(.int .u8 0),(.int .i64 0),(.str []),(.str []),(.str []),(.int .i64 0),(.int .u8 0),.nils,.nils,.nils,(.int .i64 0),.nils,.nils,.nils]
def q4 : SV := .agg q5
def q9 : List SV := [(.int .u8 0),(.str []),(.str []),.nils,.nils,(.bool false),.nils,.nils,.nils,.nils,(.int .u8 0),(.int .u8 0),(.int .i64 0),(.str []),(.str []),(.str []),(.int .i64 0),(.int .u8 0),.nils,.nils,.nils,(.int .i64 0),.nils]
def q6 : SV := .agg q9
def q7 : List SV := [(.agg [(.int .u8 2),(.int .u8 0),(.int .i64 0),(.str []),(.str []),(.str [97]),(.int .i64 0),(.int .u8 0),.nils]),(.agg [(.int .u8 1),(.int .u8 2),(.int .i64 1),(.str []),(.str []),(.str []),(.int .i64 0),(.int .u8 0),.nils])]
def q8 : List SV := [(.agg [(.int .u8 1),(.int .u8 2),(.int .i64 2),(.str []),(.str []),(.str []),(.int .i64 0),(.int .u8 0),.nils]),(.agg [(.int .u8 2),(.int .u8 0),(.int .i64 0),(.str []),(.str []),(.str [98]),(.int .i64 0),(.int .u8 0),.nils])]
def q11 : SV := .str [99,114,101,97,116,101,32,116,97,98,108,101,32,116,32,40,32,97,32,105,110,116,32,44,32,98,32,105,110,116,32,44,32,99,32,105,110,116,32,44,32,112,114,105,109,97,114,121,32,107,101,121,32,40,32,97,32,44,32,98,32,41,32,41]
def q10 : List SV := [q11]
def q13 : List SV := [(.agg [(.str [116]),(.str []),(.int .u8 0),(.int .u8 0),(.int .i64 0),(.str []),(.str []),(.str []),(.int .i64 0),(.int .u8 0),.nils])]
def q18 : List SV := [(.bool false),(.int .u8 0),(.int .u8 0),(.int .i64 0),(.str []),(.str []),(.str []),(.int .i64 0),(.int .u8 0),.nils,(.str [])]
def q14 : SV := .agg q18
def q15 : SV := .agg [(.str []),(.str []),(.int .u8 0),(.int .u8 0),(.int .i64 0),(.str []),(.str []),(.str []),(.int .i64 0),(.int .u8 0),.nils]
def q17 : SV := .str [115,101,108,101,99,116,32,42,32,102,114,111,109,32,116,32,119,104,101,114,101,32,97,32,61,32,49,32,97,110,100,32,50,32,60,61,32,98]
def q16 : List SV := [q17]
def q35 : SV := .agg [(.int .u8 1),(.str [112,114,105,109,97,114,121]),(.int .u64 0),(.int .i64 0)]
def q19 : SV := .tup [q35,(.int .i64 7),(.int .i64 0)]
def q37 : SV := .agg [(.int .u8 1),(.str [99,114,101,97,116,101]),(.int .u64 0),(.int .i64 0)]
def q20 : SV := .tup [q37,(.int .i64 6),(.int .i64 0)]
def q21 : SV := .tup [(.agg [(.int .u8 1),(.str [105,110,100,101,120]),(.int .u64 0),(.int .i64 0)]),(.int .i64 5),(.int .i64 0)]
def q24 : List SV := [(.int .u8 0),(.int .u8 0),(.int .i64 0),(.str []),(.str []),(.str []),(.int .i64 0),(.int .u8 0),.nils]
def q22 : SV := .agg q24
def q40 : SV := .agg [(.int .u8 1),(.str [116,97,98,108,101]),(.int .u64 0),(.int .i64 0)]
def q23 : SV := .tup [q40,(.int .i64 5),(.int .i64 0)]
def q43 : SV := .agg [(.int .u8 1),(.str [105,110,116]),(.int .u64 0),(.int .i64 0)]
def q25 : SV := .tup [q43,(.int .i64 3),(.int .i64 0)]
def q48 : SV := .agg [(.int .u8 1),(.str [116]),(.int .u64 0),(.int .i64 0)]
def q26 : SV := .tup [q48,(.int .i64 1),(.int .i64 0)]
def q53 : SV := .agg [(.int .u8 4),(.str [44]),(.int .u64 0),(.int .i64 0)]
def q27 : SV := .tup [q53,(.int .i64 1),(.int .i64 0)]
def q54 : SV := .agg [(.int .u8 4),(.str [40]),(.int .u64 0),(.int .i64 0)]
def q28 : SV := .tup [q54,(.int .i64 1),(.int .i64 0)]
def q55 : SV := .agg [(.int .u8 1),(.str [97]),(.int .u64 0),(.int .i64 0)]
def q29 : SV := .tup [q55,(.int .i64 1),(.int .i64 0)]
def q51 : SV := .agg [(.int .u8 4),(.str [41]),(.int .u64 0),(.int .i64 0)]
def q30 : SV := .tup [q51,(.int .i64 1),(.int .i64 0)]
def q50 : SV := .agg [(.int .u8 1),(.str [98]),(.int .u64 0),(.int .i64 0)]
def q31 : SV := .tup [q50,(.int .i64 1),(.int .i64 0)]
def q52 : SV := .agg [(.int .u8 1),(.str [99]),(.int .u64 0),(.int .i64 0)]
def q32 : SV := .tup [q52,(.int .i64 1),(.int .i64 0)]
def q33 : SV := .str [99,114,101,97,116,101,32,105,110,100,101,120,32,105,32,111,110,32,116,32,40,32,99,32,41]
def q38 : List SV := [(.int .i64 0),(.int .i64 0),(.int .i64 0),(.str []),(.str []),(.bool false)]
def q34 : SV := .agg q38
def q36 : SV := .agg [(.int .u8 1),(.str [115,101,108,101,99,116]),(.int .u64 0),(.int .i64 0)]
def q39 : SV := .agg [(.int .u8 1),(.str [119,104,101,114,101]),(.int .u64 0),(.int .i64 0)]
def q41 : SV := .agg [(.int .u8 1),(.str [102,114,111,109]),(.int .u64 0),(.int .i64 0)]
def q42 : List SV := [q43]
def q44 : SV := .agg [(.int .u8 1),(.str [107,101,121]),(.int .u64 0),(.int .i64 0)]
def q45 : SV := .agg [(.int .u8 1),(.str [111,110]),(.int .u64 0),(.int .i64 0)]
def q46 : List SV := [(.int .i64 0),(.int .u8 0),(.int .u8 0),(.int .i64 0),(.str [])]
def q47 : SV := .tup [(.sl 5 0 4 0 1 none),(.agg [(.int .i64 0),(.int .i64 0)])]
def q49 : SV := .agg [(.int .u8 1),(.str [105]),(.int .u64 0),(.int .i64 0)]
def q57 : List SV := [(.int .u8 0),(.str []),(.int .u64 0),(.int .i64 0)]
def q56 : SV := .agg q57
def q58 : SV := .agg [(.str []),(.int .i64 0),.nils,.nils,.nils]
end Go.Proofs.YtaficpgadjemcaaGreatDoor
