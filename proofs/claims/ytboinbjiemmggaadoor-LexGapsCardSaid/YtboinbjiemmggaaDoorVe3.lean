/- Runs whose answer is found on the way: that there is one. -/
import Derived.Test.YtboinbjiemmggaaDoorAbM
namespace Ab
open Go
section
variable {α : Type}
theorem exMap {p q : α → Prop} (h : ∀ x, p x → q x) (hp : ∃ x, p x) : ∃ x, q x := by obtain ⟨x, hx⟩ := hp; exact ⟨x, h x hx⟩
theorem exBr {b : Bool} {p q : α → Prop} (h1 : b = true → ∃ x, p x) (h0 : b = false → ∃ x, q x) : ∃ x, @Bool.rec (fun _ => Prop) (q x) (p x) b := by
  cases b
  · exact h0 rfl
  · exact h1 rfl
theorem exY {b : Bool} {p q : α → Prop} (h : b = true) (hp : ∃ x, p x) : ∃ x, @Bool.rec (fun _ => Prop) (q x) (p x) b := by subst h; exact hp
theorem exN {b : Bool} {p q : α → Prop} (h : b = false) (hq : ∃ x, q x) : ∃ x, @Bool.rec (fun _ => Prop) (q x) (p x) b := by subst h; exact hq
theorem exT {b : Bool} {p : α → Prop} (h : b = true) (hp : ∃ x, p x) : ∃ x, @Bool.rec (fun _ => Prop) False (p x) b := by subst h; exact hp
theorem exAnd {q : Prop} {p : α → Prop} (h : q) (hp : ∃ x, p x) : ∃ x, q ∧ p x := by obtain ⟨x, hx⟩ := hp; exact ⟨x, h, hx⟩
theorem exCall {P : Program} {f : FuncId} {args : List SV} {v : SV} {h : Heap} {R : α → AEnd → Heap → Prop} (hp : PCall P f args v) (hR : ∃ x, R x (.ret v) h) : ∃ x, ACall P f args h (R x) := by
  obtain ⟨x, hx⟩ := hR
  exact ⟨x, PCall.call hp hx⟩
theorem exSucc {P : Program} {b : ACode} {Q : α → AExit → Env → Heap → Prop} {m : Nat} {e : Env} {h : Heap} (hp : ∃ x, awp P b (backQ (Env.keys e) h.nxt (Q x) (ARound P b (Q x) m)) e h) : ∃ x, ARound P b (Q x) (m + 1) e h := by
  obtain ⟨x, hx⟩ := hp
  exact ⟨x, .succ hx⟩
theorem exRounds {P : Program} {b : ACode} {Q : α → AExit → Env → Heap → Prop} (m : Nat) {e : Env} {h : Heap} (hp : ∃ x, ARound P b (Q x) m e h) : ∃ x, ALoop P b (Q x) e h := by
  obtain ⟨x, hx⟩ := hp
  exact ⟨x, loop_rounds m hx⟩
/-- A loop that shortens what it goes through. -/
theorem exInd {P : Program} {b : ACode} {Q : α → AExit → Env → Heap → Prop} {β : Type} (env : β → Env) (μ : β → Nat) {h : Heap}
    (hs : ∀ (n : Nat) (s : β), (∀ s', μ s' < μ s → ∃ x, ARound P b (Q x) n (env s') h) → ∃ x, ARound P b (Q x) (n + 1) (env s) h) (t : β) : ∃ x, ALoop P b (Q x) (env t) h := by
  have key : ∀ (n : Nat) (s : β), μ s < n → ∃ x, ARound P b (Q x) n (env s) h := by
    intro n
    induction n with
    | zero => intro s hs; omega
    | succ n ih => exact fun s hlt => hs n s fun s' h' => ih s' (by omega)
  exact exRounds (μ t + 1) (key _ t (Nat.lt_succ_self _))
theorem exPure {P : Program} {f : FuncId} {args : List SV} {v : α → SV} (hargs : ∀ a ∈ args, LitV a) (hp : ∃ x, ACall P f args ⟨0, []⟩ fun r h' => ∃ v', r = .ret v' ∧ Hard h' v' (v x)) : ∃ x, PCall P f args (v x) := by
  obtain ⟨x, hx⟩ := hp
  exact ⟨x, pcall_of hargs hx⟩
end
/-- A loop whose rounds may make what lives on. -/
theorem loop_any {P : Program} {b : ACode} {Q : AExit → Env → Heap → Prop} {σ : Type} (env : σ → Env) (hp : σ → Heap) (μ : σ → Nat) (N : σ → Nat) (hN : ∀ s, (hp s).nxt ≤ N s)
    (step : ∀ s, awp P b (backQ (Env.keys (env s)) (N s) Q (fun e' h' => ∃ s', μ s' < μ s ∧ e' = env s' ∧ h' = hp s')) (env s) (hp s)) (s : σ) : ALoop P b Q (env s) (hp s) :=
  loop_okN (fun m e h => ∃ s, μ s = m ∧ e = env s ∧ h = hp s) (fun m e h ⟨s, hm, he, hh⟩ => by
    subst hm; subst he; subst hh
    exact ⟨N s, _, hN s, fun e' h' ⟨s', hlt, he, hh⟩ => ⟨μ s', hlt, s', rfl, he, hh⟩, step s⟩) ⟨s, rfl, rfl, rfl⟩
end Ab
