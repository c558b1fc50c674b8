/- Closed runs: calls entered, loops gone round, by a number that falls: so that the kernel reckons a run by itself. -/
import Derived.Test.YtboinbjiemmggaaDoorAbJ
import Derived.KernelRfl
namespace Ab
set_option linter.unusedVariables false
set_option linter.unusedSimpArgs false
open Go

structure Tab where
  nt : Nat
  code : ACode
  rs : List RV
structure TabOk (P : Program) (f : Nat) (t : Tab) : Prop where
  ok : ∃ fn code, P.funcs[f]? = some fn ∧ fn.body = some code ∧ ordsOk t.code = true ∧ erase t.code = cCode P fn.ntmps code ∧ cRes P fn.results.toList = some t.rs ∧ t.nt = fn.ntmps
theorem tabOk {P : Program} {f : Nat} {fn : Func} {code : Code} {t : Tab} (hf : P.funcs[f]? = some fn) (hb : fn.body = some code) (ho : ordsOk t.code = true) (hc : erase t.code = cCode P fn.ntmps code) (hr : cRes P fn.results.toList = some t.rs) (hn : t.nt = fn.ntmps) : TabOk P f t :=
  ⟨fn, code, hf, hb, ho, hc, hr, hn⟩
inductive TabsOk (P : Program) : List (Nat × Tab) → Prop
  | nil : TabsOk P []
  | cons {f : Nat} {t : Tab} {r : List (Nat × Tab)} (h : TabOk P f t) (hr : TabsOk P r) : TabsOk P ((f, t) :: r)

noncomputable section
def tabK (l : List (Nat × Tab)) (f : Nat) (k : Tab → Prop) : Prop :=
  @List.rec (Nat × Tab) (fun _ => Prop) False (fun x _ ih => @Bool.rec (fun _ => Prop) ih (k x.2) (Nat.beq x.1 f)) l
def restQ (Q : AExit → Env → Heap → Prop) (I : Env → Heap → Prop) : AExit → Env → Heap → Prop
  | .normal, e, h => I e h
  | x, e, h => Q x e h
def lvl (P : Program) (T : List (Nat × Tab)) (n : Nat) : CallR × LoopR :=
  @Nat.rec (fun _ => CallR × LoopR) (⟨fun _ _ _ _ => False, fun v v' p => asr (svEq 8 v v') p⟩, fun _ _ _ _ => False)
    (fun _ ih => (⟨fun f a h k => tabK T f fun t => asr (Nat.ble a.length t.nt) (awpC P ih.1 ih.2 t.code (finQ t.rs k) (argEnv 0 a) h), fun v v' p => asr (svEq 8 v v') p⟩,
      fun b Q e h => awpC P ih.1 ih.2 b (restQ Q (ih.2 b Q)) e h)) n
end

theorem lvl_same {P : Program} {T : List (Nat × Tab)} : ∀ n v v' p, (lvl P T n).1.same v v' p → Lk v' v ∧ p
  | 0, v, v', p, h => by
    have h' := asr_iff.1 (show asr (svEq 8 v v') p from h)
    exact ⟨svEq_eq 8 _ _ h'.1 ▸ .refl _, h'.2⟩
  | n+1, v, v', p, h => by
    have h' := asr_iff.1 (show asr (svEq 8 v v') p from h)
    exact ⟨svEq_eq 8 _ _ h'.1 ▸ .refl _, h'.2⟩
theorem tabK_inv {P : Program} : ∀ {l : List (Nat × Tab)} {f : Nat} {k : Tab → Prop}, TabsOk P l → tabK l f k → ∃ t, TabOk P f t ∧ k t
  | [], f, k, _, h => h.elim
  | (g, t) :: r, f, k, .cons h1 h2, h => by
    have h' : @Bool.rec (fun _ => Prop) (tabK r f k) (k t) (Nat.beq g f) := h
    rcases brE h' with ⟨hb, hk⟩ | ⟨_, hk⟩
    · obtain rfl := Nat.eq_of_beq_eq_true hb
      exact ⟨t, h1, hk⟩
    · exact tabK_inv h2 hk

theorem ARound.fullC {P : Program} {Γ : CallR} {Λ : LoopR} (hΓ : Γ.Ok P) (hΛ : ∀ b Q e h, Λ b Q e h → ALoop P b Q e h) {b : ACode} {Q : AExit → Env → Heap → Prop} {I : Env → Heap → Prop} {m : Nat} {e : Env} {h : Heap}
    (hI : ∀ e h, I e h → ARound P b Q m e h) (hp : awpC P Γ Λ b (restQ Q I) e h) : ARound P b Q (m + 1) e h := by
  refine ⟨fun n code hmix hord hc c w a hr he hn => ?_⟩
  rw [rounds_succ]
  refine wp_mono (awpC_sound (n := n) hΓ hΛ hmix code b _ e h hord hc hp c w a hr he hn) fun ex a2 w2 hpost => ?_
  obtain ⟨c2, h2, e2, xx, hq, hr2, hx2, he2, hn2, hd2, hex⟩ := hpost
  cases ex with
  | normal =>
    cases xx <;> try exact hex.elim
    simp only [Exit.then]
    have := (hI _ _ hq).run n code hmix hord hc c2 w2 a2 hr2 he2 hn2
    rw [hd2] at this
    exact rounds_mono (fun _ _ _ hp2 => hp2.of hr hx2) m this
  | exit i => cases xx <;> first | exact hex.elim | exact ⟨c2, h2, e2, _, hq, hr2, hx2, he2, hn2, hd2, hex⟩
  | goto l => cases xx <;> exact hex.elim
  | ret => cases xx <;> first | exact hex.elim | exact ⟨c2, h2, e2, _, hq, hr2, hx2, he2, hn2, hd2, hex⟩
  | panic ch => cases xx <;> first | exact hex.elim | exact ⟨c2, h2, e2, _, hq, hr2, hx2, he2, hn2, hd2, hex⟩
  | outgrown => cases xx <;> exact hex.elim

/-- What the reckoning says is so. -/
theorem lvl_sound {P : Program} {T : List (Nat × Tab)} (hm : P.follows .mixedOrders = true) (hT : TabsOk P T) : ∀ n, (lvl P T n).1.Ok P ∧ (∀ b Q e h, (lvl P T n).2 b Q e h → ARound P b Q n e h)
  | 0 => ⟨⟨fun _ _ _ _ h => h.elim, lvl_same 0⟩, fun _ _ _ _ h => h.elim⟩
  | n + 1 => by
    obtain ⟨ih1, ih2⟩ := lvl_sound hm hT n
    have hΛ : ∀ b Q e h, (lvl P T n).2 b Q e h → ALoop P b Q e h := fun b Q e h hp => loop_rounds n (ih2 b Q e h hp)
    refine ⟨⟨fun f a h k hp => ?_, lvl_same (n + 1)⟩, fun b Q e h hp => ARound.fullC ih1 hΛ (fun e h hp => ih2 b Q e h hp) hp⟩
    have hp' : tabK T f fun t => asr (Nat.ble a.length t.nt) (awpC P (lvl P T n).1 (lvl P T n).2 t.code (finQ t.rs k) (argEnv 0 a) h) := hp
    obtain ⟨t, ⟨fn, code, hf, hb, ho, hc, hr, hn⟩, hp'⟩ := tabK_inv hT hp'
    replace hp' := asr_iff.1 hp'
    exact acall_of_awpC ih1 hΛ hm hf hb ho hc hr (by rw [← hn]; exact hp'.1) hp'.2

/-- A closed call, reckoned. -/
theorem pcall_lvl {P : Program} {T : List (Nat × Tab)} (hm : P.follows .mixedOrders = true) (hT : TabsOk P T) (n : Nat) {f : FuncId} {args : List SV} {v : SV} (ha : ∀ a ∈ args, LitV a) (hv : LitV v)
    (hp : (lvl P T n).1.call f args ⟨0, []⟩ (fun r _ => r = .ret v)) : PCall P f args v :=
  ⟨ha, ((lvl_sound hm hT n).1.call _ _ _ _ hp).mono fun r h' hr => ⟨v, hr, .lit hv⟩⟩
end Ab
