/- Closed runs of functions that put calls off, and of one that catches a panic. -/
import Derived.Test.YtncdiipfnmdgpaaGreatDoorAcD
namespace Ab
set_option linter.unusedVariables false
set_option linter.unusedSimpArgs false
open Go
noncomputable section
def delQ (K : Option SV → Heap → Prop) (m : Option SV) : AEnd → Heap → Prop
  | .ret _, h => K m h
  | .pan _, _ => False
def caught : Option SV → SV
  | none => .nili
  | some v => v
/-- The number of the place that takes what is caught, if the code begins so. -/
def rcvD : ACode → Option (Nat × ACode)
  | .seq a b => match a with
    | .region ops _ => match ops with
      | o :: r => match r with
        | [] => match o.op with
          | .rcv => match o.guard with
            | none => match o.dst with
              | some d => some (d, b)
              | none => none
            | _ => none
          | _ => none
        | _ => none
      | _ => none
    | _ => none
  | _ => none
def delC (P : Program) (Γ : CallR) (Λ : LoopR) (code : ACode) (rs : List RV) (m : Option SV) (K : Option SV → Heap → Prop) (e : Env) (h : Heap) : Prop :=
  match rcvD code with
  | some (d, b) => putD e (some d) (caught m) fun e => awpC P Γ Λ b (finQ rs (delQ K none)) e h
  | none => awpC P Γ Λ code (finQ rs (delQ K m)) e h
def delK (P : Program) (T : List (Nat × Tab)) (Γ : CallR) (Λ : LoopR) : DelR := fun f a m h K => tabK T f fun t => asr (Nat.ble a.length t.nt) (delC P Γ Λ t.code t.rs m K (argEnv 0 a) h)
def orK (l : List (Nat × Tab)) (f : Nat) (k : Tab → Prop) (d : Prop) : Prop :=
  @List.rec (Nat × Tab) (fun _ => Prop) d (fun x _ ih => @Bool.rec (fun _ => Prop) ih (k x.2) (Nat.beq x.1 f)) l
def lvd (P : Program) (T TD : List (Nat × Tab)) (L : List Know) (n : Nat) : CallR × LoopR :=
  @Nat.rec (fun _ => CallR × LoopR) (⟨fun _ _ _ _ => False, fun v v' p => asr (lkB 8 v' v) p⟩, fun _ _ _ _ => False)
    (fun _ ih => (⟨fun f a h k => knowK L f a h k (orK TD f (fun t => asr (Nat.ble a.length t.nt) (awpD P ih.1 ih.2 t.code (finD P (delK P T ih.1 ih.2) t.rs k) (argEnv 0 a) h []))
        (tabK T f fun t => asr (Nat.ble a.length t.nt) (awpC P ih.1 ih.2 t.code (finQ t.rs k) (argEnv 0 a) h))), fun v v' p => asr (lkB 8 v' v) p⟩,
      fun b Q e h => awpC P ih.1 ih.2 b (restQ Q (ih.2 b Q)) e h)) n
end
theorem orK_inv {P : Program} {f : Nat} {k : Tab → Prop} {d : Prop} : ∀ {l : List (Nat × Tab)}, TabsOk P l → orK l f k d → (∃ t, TabOk P f t ∧ k t) ∨ d
  | [], _, hp => .inr hp
  | (g, t) :: r, .cons h1 h2, hp => by
    replace hp : @Bool.rec (fun _ => Prop) (orK r f k d) (k t) (Nat.beq g f) := hp
    rcases brE hp with ⟨hb, hq⟩ | ⟨_, hq⟩
    · obtain rfl := Nat.eq_of_beq_eq_true hb
      exact .inl ⟨t, h1, hq⟩
    · exact orK_inv h2 hq
theorem cOp_rcv {P : Program} {op : Op} (h : cOp P op = .rcv) : ∃ cl, op = .call cl ∧ cl.callee = .builtin .recover := by
  cases op with
  | call cl =>
    refine ⟨cl, rfl, ?_⟩
    revert h
    simp only [cOp, cond_eq_ite]
    repeat' split
    all_goals intro h
    all_goals first
      | assumption
      | (cases h; done)
  | _ =>
    exfalso
    revert h
    simp only [cOp, cond_eq_ite]
    repeat' split
    all_goals intro h
    all_goals first
      | (cases h; done)
      | (cases ‹_ = Op.call _›; done)
theorem cOper_none {P : Program} {n : Nat} {ops : Array Oper} {o : Oper} {p : AOp} (hop : (cOper P n ops false o).op = p) (hb : p ≠ .bad) (hg : (cOper P n ops false o).guard = none) :
    dstOk n o = true ∧ o.guard = none ∧ (cOper P n ops false o).dst = o.dst ∧ cOp P o.op = p := by
  unfold cOper at hop hg ⊢
  dsimp only at hop hg ⊢
  cases hdk : dstOk n o
  · rw [hdk] at hop; exact absurd hop.symm hb
  · rw [hdk] at hop hg
    simp only [cond_true] at hop hg ⊢
    cases hgg : o.guard with
    | none => rw [hgg] at hop; exact ⟨trivial, rfl, rfl, hop⟩
    | some gw =>
      obtain ⟨q, want⟩ := gw
      rw [hgg] at hop hg
      dsimp only at hop hg
      split at hop
      · rename_i t ht
        cases hbl : Nat.blt t n
        · rw [hbl] at hop; exact absurd hop.symm hb
        · rw [ht] at hg
          dsimp only at hg
          rw [hbl] at hg
          cases hg
      · exact absurd hop.symm hb
theorem rcvD_inv {code b : ACode} {d : Nat} (h : rcvD code = some (d, b)) : ∃ o fg, code = .seq (.region [o] fg) b ∧ o.op = .rcv ∧ o.guard = none ∧ o.dst = some d := by
  unfold rcvD at h
  repeat' split at h
  all_goals first
    | (cases h; done)
    | (cases h; exact ⟨_, _, rfl, by assumption, by assumption, by assumption⟩)
/-- A function that catches a panic first of all, put off. -/
theorem acallD_of_rcv {P : Program} {Γ : CallR} {Λ : LoopR} (hΓ : Γ.Ok P) (hΛ : ∀ b Q e h, Λ b Q e h → ALoop P b Q e h) {f : FuncId} {fn : Func} {code : Code} {ac ab : ACode} {d : Nat} {rs : List RV} {args : List SV} {h : Heap} {m : Option SV} {K : Option SV → Heap → Prop} (hm : P.follows .mixedOrders = true) (hf : P.funcs[f]? = some fn) (hb : fn.body = some code)
    (ho : ordsOk ac = true) (hc : erase ac = cCode P fn.ntmps code) (hrs : cRes P fn.results.toList = some rs) (hn : Nat.ble args.length fn.ntmps = true) (hac : rcvD ac = some (d, ab))
    (hp : awpC P Γ Λ ab (finQ rs (delQ K none)) (putE (argEnv 0 args) (some d) (caught m)) h) : ACallD P f args m h K := by
  refine ⟨fun c w xs u hr hs hv hmr => ?_⟩
  have hn := Nat.le_of_ble_eq_true hn
  obtain ⟨ao, fg, rfl, haop, hag, had⟩ := rcvD_inv hac
  have her := args_er hs hn hv
  have hsz : (xs ++ Array.replicate (fn.ntmps - xs.size) undef).size = fn.ntmps := by simp; omega
  cases code <;> simp only [erase, cCode, ACode.seq.injEq, reduceCtorEq] at hc
  · rename_i id ops dr; cases dr <;> simp only [cond_true, cond_false, reduceCtorEq] at hc
  rename_i x y
  obtain ⟨hx, hy⟩ := hc
  cases x <;> simp only [cCode, reduceCtorEq] at hx
  rename_i id ops dr
  cases dr <;> simp only [cond_true, cond_false, reduceCtorEq, ACode.region.injEq, and_true] at hx
  obtain ⟨ops⟩ := ops
  cases ops with
  | nil => simp at hx
  | cons o r =>
  cases r with
  | cons _ _ => simp at hx
  | nil =>
  simp only [List.map_cons, List.map_nil, List.cons.injEq, and_true] at hx
  subst hx
  obtain ⟨hdk, hgg, hdst, hcop⟩ := cOper_none haop (by intro h; cases h) hag
  obtain ⟨cl, hopd, hcal⟩ := cOp_rcv hcop
  rw [hdst] at had
  have hlt : d < fn.ntmps := by
    unfold dstOk at hdk
    rw [had] at hdk
    exact Nat.lt_of_succ_le (by simpa [Nat.blt] using hdk)
  have hrun : ∀ ev, (execOp ev o).run P w = .ok .recover w := fun ev => by
    simp [execOp, hopd, resolve, hcal, invoke, builtin]
  simp only [ordsOk, Bool.and_eq_true] at ho
  -- what is caught
  have key : ∀ (c₀ : Frame) (cs : List Frame), c₀.mode = u → ∃ u' x cs', (match recoverD (c₀ :: cs) with | some (v, cs') => x = v ∧ cs' = { c₀ with mode := u' } :: cs | none => x = .nilIface ∧ u' = u) ∧ cs' = { c₀ with mode := u' } :: cs ∧ VR c h w (caught m) x ∧ MR c h w none (settle u') := by
    intro c₀ cs hu
    cases m with
    | none =>
      cases u <;> try exact hmr.elim
      refine ⟨.returning, .nilIface, _, ?_, rfl, .pure .nili, trivial⟩
      simp [recoverD, hu]
    | some v =>
      obtain ⟨x, rfl, hvx⟩ := hmr
      refine ⟨.panicking [{ v := x, recovered := true }], x, _, ?_, rfl, hvx, trivial⟩
      simp [recoverD, hu]
  refine callsD_of_wpS hf hb fun c₀ cs hu => wpS_seq (wpS_region ?_)
  obtain ⟨u', x, cs', hrec, hcs, hvx, hmr'⟩ := key c₀ cs hu
  have rest : ∀ cs2, cs2 = { c₀ with mode := u' } :: cs → Exit.thenS (y.wpS P (bodyPostS P fn c₀ cs fun e u' w' => (∃ x, e = .returned x) ∧ ∃ c' h' m', K m' h' ∧ Rep c' h' w' ∧ Ext c h w c' h' w' ∧ MR c' h' w' m' (settle u')))
      (bodyPostS P fn c₀ cs fun e u' w' => (∃ x, e = .returned x) ∧ ∃ c' h' m', K m' h' ∧ Rep c' h' w' ∧ Ext c h w c' h' w' ∧ MR c' h' w' m' (settle u')) .normal (Act.put { tmps := xs ++ Array.replicate (fn.ntmps - xs.size) undef, defers := [] } o.dst x) cs2 w := by
    intro cs2 hcs2
    subst hcs2
    refine wpS_of_wp ?_
    refine wp_mono (awpC_sound (n := fn.ntmps) hΓ hΛ hm y ab _ _ h ho.2 hy hp c w _ hr ?_ ?_) fun ex a' w' hpost => ?_
    · rw [had]
      exact ER.put (a := { tmps := xs ++ Array.replicate (fn.ntmps - xs.size) undef, defers := [] }) her (fun t ht => by cases ht; show d < _; rw [hsz]; exact hlt) hvx
    · rw [put_size]; exact hsz
    · obtain ⟨c', h', e', xx, hq, hr', hx', he', hn', hd', hex⟩ := hpost
      have hd' : a'.defers = [] := by rw [hd', put_defers]
      have fin : (resK rs e' h' fun vs => match vs with
          | [v] => delQ K none (.ret v) h'
          | vs => delQ K none (.ret (.tup vs)) h') → a'.defers = [] ∧ ∃ u'', ({ c₀ with mode := u' } :: cs : List Frame) = { c₀ with mode := u'' } :: cs ∧ ∃ v, (results fn a'.tmps).run P w' = .ok v w' ∧ (∃ x, Ending.returned v = .returned x) ∧ ∃ c' h' m', K m' h' ∧ Rep c' h' w' ∧ Ext c h w c' h' w' ∧ MR c' h' w' m' (settle u'') := fun hq => by
        obtain ⟨v, x, hR, hrun, hvx⟩ := results_run (P := P) (fn := fn) (R := delQ K none) hr' he' hrs hq
        exact ⟨hd', u', rfl, x, hrun, ⟨x, rfl⟩, c', h', none, hR, hr', hx', hmr'.mono hr hx'⟩
      cases ex with
      | normal => cases xx <;> first | exact hex.elim | exact fin hq
      | exit i => cases xx <;> first | exact hex.elim | exact hq.elim
      | goto l => cases xx <;> exact hex.elim
      | ret => cases xx <;> first | exact hex.elim | exact fin hq
      | panic ch => cases xx <;> first | exact hex.elim | exact hq.elim
      | outgrown => cases xx <;> exact hex.elim
  have hrange : List.range (#[o] : Array Oper).size = [0] := rfl
  show wpOpsS P #[o] _ (List.range (#[o] : Array Oper).size) _ (c₀ :: cs) w
  rw [hrange]
  have h0 : (#[o] : Array Oper)[0]? = some o := rfl
  unfold wpOpsS
  rw [h0]
  dsimp only
  rw [if_pos (by simp [Region.wanted, hgg]), hrun]
  dsimp only
  cases hrc : recoverD (c₀ :: cs) with
  | none =>
    rw [hrc] at hrec
    obtain ⟨rfl, rfl⟩ := hrec
    exact rest _ (by cases c₀; cases hu; rfl)
  | some vc =>
    obtain ⟨v, cs2⟩ := vc
    rw [hrc] at hrec
    obtain ⟨rfl, hcs2⟩ := hrec
    exact rest cs2 hcs2
theorem delK_sound {P : Program} {T : List (Nat × Tab)} {Γ : CallR} {Λ : LoopR} (hm : P.follows .mixedOrders = true) (hT : TabsOk P T) (hΓ : Γ.Ok P) (hΛ : ∀ b Q e h, Λ b Q e h → ALoop P b Q e h) : (delK P T Γ Λ).Ok P := by
  intro f a m h K hp
  obtain ⟨t, ⟨fn, code, hf, hb, ho, hc, hr, hn⟩, hp⟩ := tabK_inv hT hp
  obtain ⟨hl, hp⟩ := asr_iff.1 hp
  rw [hn] at hl
  unfold delC at hp
  split at hp
  · rename_i d b hd
    rw [putD_eq] at hp
    exact acallD_of_rcv hΓ hΛ hm hf hb ho hc hr hl hd hp
  · exact acallD_of_awpC hΓ hΛ hm hf hb ho hc hr hl hp
theorem lvd_same {P : Program} {T TD : List (Nat × Tab)} {L : List Know} : ∀ n v v' p, (lvd P T TD L n).1.same v v' p → Lk v' v ∧ p
  | 0, v, v', p, h => by
    have h' := asr_iff.1 (show asr (lkB 8 v' v) p from h)
    exact ⟨lkB_lk 8 _ _ h'.1, h'.2⟩
  | n+1, v, v', p, h => by
    have h' := asr_iff.1 (show asr (lkB 8 v' v) p from h)
    exact ⟨lkB_lk 8 _ _ h'.1, h'.2⟩
theorem lvd_sound {P : Program} {T TD : List (Nat × Tab)} {L : List Know} (hm : P.follows .mixedOrders = true) (hT : TabsOk P T) (hD : TabsOk P TD) (hL : KnowsOk P L) : ∀ n, (lvd P T TD L n).1.Ok P ∧ (∀ b Q e h, (lvd P T TD L n).2 b Q e h → ARound P b Q n e h)
  | 0 => ⟨⟨fun _ _ _ _ h => h.elim, lvd_same 0⟩, fun _ _ _ _ h => h.elim⟩
  | n + 1 => by
    obtain ⟨ih1, ih2⟩ := lvd_sound hm hT hD hL n
    have hΛ : ∀ b Q e h, (lvd P T TD L n).2 b Q e h → ALoop P b Q e h := fun b Q e h hp => loop_rounds n (ih2 b Q e h hp)
    refine ⟨⟨fun f a h k hp => ?_, lvd_same (n + 1)⟩, fun b Q e h hp => ARound.fullC ih1 hΛ (fun e h hp => ih2 b Q e h hp) hp⟩
    have hp' : knowK L f a h k (orK TD f (fun t => asr (Nat.ble a.length t.nt) (awpD P (lvd P T TD L n).1 (lvd P T TD L n).2 t.code (finD P (delK P T (lvd P T TD L n).1 (lvd P T TD L n).2) t.rs k) (argEnv 0 a) h []))
        (tabK T f fun t => asr (Nat.ble a.length t.nt) (awpC P (lvd P T TD L n).1 (lvd P T TD L n).2 t.code (finQ t.rs k) (argEnv 0 a) h))) := hp
    rcases knowK_inv hL hp' with hc | hp'
    · exact hc
    · rcases orK_inv hD hp' with ⟨t, ⟨fn, code, hf, hb, ho, hc, hr, hn⟩, hp'⟩ | hp'
      · replace hp' := asr_iff.1 hp'
        exact acall_of_awpD ih1 hΛ (delK_sound hm hT ih1 hΛ) hm hf hb ho hc hr (by rw [← hn]; exact hp'.1) hp'.2
      · obtain ⟨t, ⟨fn, code, hf, hb, ho, hc, hr, hn⟩, hp'⟩ := tabK_inv hT hp'
        replace hp' := asr_iff.1 hp'
        exact acall_of_awpC ih1 hΛ hm hf hb ho hc hr (by rw [← hn]; exact hp'.1) hp'.2
/-- A call is known, for it was reckoned. -/
theorem rcall_lvd {P : Program} {T TD : List (Nat × Tab)} {L : List Know} (hm : P.follows .mixedOrders = true) (hT : TabsOk P T) (hD : TabsOk P TD) (hL : KnowsOk P L) (n : Nat) (k : Know) (h1 : (k.args.all (litB 8) && (firmB 8 k.v && firmL k.H)) = true)
    (hp : (lvd P T TD L n).1.call k.f k.args ⟨0, []⟩ (fun r h => endR k.v k.N k.H r h = true)) : RCall P k.f k.args k.v k.N k.H := by
  simp only [Bool.and_eq_true] at h1
  refine ⟨fun a ha => litB_lit 8 a (List.all_eq_true.1 h1.1 a ha), h1.2.1, h1.2.2, ((lvd_sound hm hT hD hL n).1.call _ _ _ _ hp).mono fun r h' hr => ?_⟩
  unfold endR at hr
  split at hr
  · simp only [Bool.and_eq_true] at hr
    exact ⟨by rw [svEq_eq 8 _ _ hr.1], Nat.eq_of_beq_eq_true hr.2.1, fun i o ho => subH_sub hr.2.2 i o ho⟩
  · cases hr
/-- A closed call that comes to a plain value. -/
theorem pcall_lvd {P : Program} {T TD : List (Nat × Tab)} {L : List Know} (hm : P.follows .mixedOrders = true) (hT : TabsOk P T) (hD : TabsOk P TD) (hL : KnowsOk P L) (n : Nat) {f : FuncId} {args : List SV} {v : SV} (ha : ∀ a ∈ args, LitV a) (hv : LitV v)
    (hp : (lvd P T TD L n).1.call f args ⟨0, []⟩ (fun r _ => r = .ret v)) : PCall P f args v :=
  ⟨ha, ((lvd_sound hm hT hD hL n).1.call _ _ _ _ hp).mono fun r h' hr => ⟨v, hr, .lit hv⟩⟩
end Ab
