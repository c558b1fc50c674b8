/- Closed runs with maps gone through: whatever the order, the loop leaves the same behind. -/
import Derived.Test.YtncdiipfnmdgpaaGreatDoorAcE
namespace Ab
set_option linter.unusedVariables false
set_option linter.unusedSimpArgs false
open Go
/-- What a loop over a map leaves: at its head the heap's next name is 'at_'; it goes out by 'out'; the places in 'gone' are forgotten; 'rm' leaves memory, 'chg' is written, 'new' is new, the next name is 'nxt'. -/
structure Hint where
  at_ : Nat
  out : Nat
  gone : List Nat
  rm : List Nat
  chg : List (Nat × AObj)
  new : List (Nat × AObj)
  nxt : Nat
noncomputable section
def dropE (D : List Nat) : Env → Env
  | [] => []
  | (t, v) :: r => bif memB D t then dropE D r else (t, v) :: dropE D r
def dropEK (D : List Nat) (e : Env) (k : Env → Prop) : Prop :=
  @List.rec (Nat × SV) (fun _ => (Env → Prop) → Prop) (fun k => k []) (fun x _ ih k => @Bool.rec (fun _ => Prop) (ih fun r => k (x :: r)) (ih k) (memB D x.1)) e k
def endM (j : Nat) (e1 : Env) (N : Nat) (H : List (Nat × AObj)) (x : AExit) (e' : Env) (h' : Heap) : Bool := match x with
  | .exit i => Nat.beq i j && (envB e' e1 && (Nat.beq h'.nxt N && subLk H h'.l))
  | _ => false
def rmAll (l : List (Nat × AObj)) (rm : List Nat) (k : List (Nat × AObj) → Prop) : Prop :=
  @List.rec Nat (fun _ => List (Nat × AObj) → Prop) k (fun i _ ih l => dropO l i ih) rm l
def chgAll (l : List (Nat × AObj)) (chg : List (Nat × AObj)) (k : List (Nat × AObj) → Prop) : Prop :=
  @List.rec (Nat × AObj) (fun _ => List (Nat × AObj) → Prop) k (fun x _ ih l => setO l x.1 x.2 ih) chg l
def pushAll (l : List (Nat × AObj)) (new : List (Nat × AObj)) (k : List (Nat × AObj) → Prop) : Prop :=
  @List.rec (Nat × AObj) (fun _ => List (Nat × AObj) → Prop) k (fun x _ ih l => ih (x :: l)) new l
def hintK (M : List Hint) (n : Nat) (k : Hint → Prop) (d : Prop) : Prop :=
  @List.rec Hint (fun _ => Prop) d (fun x _ ih => @Bool.rec (fun _ => Prop) ih (k x) (Nat.beq x.at_ n)) M
abbrev LV := CallR × LoopR × LoopR
/-- Does the loop's body begin by asking a map for its next entry? -/
def nextFirst : ACode → Bool
  | .seq a _ => match a with
    | .region ops _ => match ops with
      | o :: _ => match o.op with
        | .nextM _ => true
        | _ => false
      | _ => false
    | _ => false
  | _ => false
def plainM (P : Program) (ih : LV) : LoopR := fun b Q e h => awpC P ih.1 ih.2.1 b (restQ Q (ih.2.2 b Q)) e h
def loopM (P : Program) (M : List Hint) (ih : LV) : LoopR := fun b Q e h =>
  @Bool.rec (fun _ => Prop) (plainM P ih b Q e h) (match h with
    | ⟨n, l⟩ => hintK M n (fun t => dropEK t.gone e fun e1 => rmAll l t.rm fun l => chgAll l t.chg fun l => pushAll l t.new fun l =>
        plainM P ih b (fun x e' h' => endM t.out e1 t.nxt l x e' h' = true) e h ∧ Q (.exit t.out) e1 ⟨t.nxt, l⟩)
      (plainM P ih b Q e h)) (nextFirst b)
def lvm (P : Program) (T TD : List (Nat × Tab)) (L : List Know) (M : List Hint) (n : Nat) : LV :=
  @Nat.rec (fun _ => LV) (⟨fun _ _ _ _ => False, fun v v' p => asr (lkB 8 v' v) p⟩, fun _ _ _ _ => False, fun _ _ _ _ => False)
    (fun _ ih => (⟨fun f a h k => knowK L f a h k (orK TD f (fun t => asr (Nat.ble a.length t.nt) (awpD P ih.1 ih.2.1 t.code (finD P (delK P T ih.1 ih.2.1) t.rs k) (argEnv 0 a) h []))
        (tabK T f fun t => asr (Nat.ble a.length t.nt) (awpC P ih.1 ih.2.1 t.code (finQ t.rs k) (argEnv 0 a) h))), fun v v' p => asr (lkB 8 v' v) p⟩,
      loopM P M ih, plainM P ih)) n
/-- What the kernel finds: for each map gone through, all its orders; then the rest. -/
def repP (p : Prop) : Nat → Prop
  | 0 => True
  | n+1 => p ∧ repP p n
def permP : Nat → Prop
  | 0 => true = true
  | n+1 => repP (permP n) (n + 1)
def mapsP (q : Prop) : List Nat → Prop
  | [] => q
  | n :: r => permP n ∧ mapsP q r
/-- The same where no hint is given: the rest behind each order. -/
def permQ (q : Prop) : Nat → Prop
  | 0 => q
  | n+1 => repP (permQ q n) (n + 1)
def permQs (q : Prop) : List Nat → Prop
  | [] => q
  | n :: r => permQ (permQs q r) n
end
theorem repP_ok {p : Prop} (hp : p) : ∀ n, repP p n
  | 0 => trivial
  | n+1 => ⟨hp, repP_ok hp n⟩
theorem permP_ok : ∀ n, permP n
  | 0 => rfl
  | n+1 => repP_ok (permP_ok n) (n + 1)
theorem permQ_ok {q : Prop} (h : q) : ∀ n, permQ q n
  | 0 => h
  | n+1 => repP_ok (permQ_ok h n) (n + 1)
theorem permQs_ok {q : Prop} (h : q) : ∀ l, permQs q l
  | [] => h
  | n :: r => permQ_ok (permQs_ok h r) n
theorem mapsP_ok {q : Prop} (h : q) : ∀ l, mapsP q l
  | [] => h
  | n :: r => ⟨permP_ok n, mapsP_ok h r⟩
theorem dropEK_eq (D : List Nat) : ∀ (e : Env) (k : Env → Prop), dropEK D e k = k (dropE D e)
  | [], k => rfl
  | (t, v) :: r, k => by
    show @Bool.rec (fun _ => Prop) (dropEK D r fun r' => k ((t, v) :: r')) (dropEK D r k) (memB D t) = _
    unfold dropE
    cases memB D t
    · exact dropEK_eq D r _
    · exact dropEK_eq D r _
theorem rmAll_inv {k : List (Nat × AObj) → Prop} : ∀ {rm : List Nat} {l : List (Nat × AObj)}, rmAll l rm k → ∃ l', k l'
  | [], l, h => ⟨l, h⟩
  | i :: r, l, h => by
    have h : dropO l i fun l' => rmAll l' r k := h
    have : ∀ {l : List (Nat × AObj)} {q : List (Nat × AObj) → Prop}, dropO l i q → ∃ l', q l' := fun {l} => by
      induction l with
      | nil => intro q h; exact ⟨_, h⟩
      | cons x t ih =>
        intro q h
        obtain ⟨s, o⟩ := x
        unfold dropO at h
        rcases brE h with ⟨_, h⟩ | ⟨_, h⟩
        · exact ih h
        · obtain ⟨l', h'⟩ := ih h; exact ⟨_, h'⟩
    obtain ⟨l', h'⟩ := this h
    exact rmAll_inv h'
theorem chgAll_inv {k : List (Nat × AObj) → Prop} : ∀ {chg l : List (Nat × AObj)}, chgAll l chg k → ∃ l', k l'
  | [], l, h => ⟨l, h⟩
  | x :: r, l, h => by
    have h : setO l x.1 x.2 fun l' => chgAll l' r k := h
    rw [setO_eq] at h
    exact chgAll_inv h
theorem pushAll_inv {k : List (Nat × AObj) → Prop} : ∀ {new l : List (Nat × AObj)}, pushAll l new k → ∃ l', k l'
  | [], l, h => ⟨l, h⟩
  | x :: r, l, h => pushAll_inv (show pushAll (x :: l) r k from h)
theorem hintK_inv {n : Nat} {k : Hint → Prop} {d : Prop} : ∀ {M : List Hint}, hintK M n k d → (∃ t, k t) ∨ d
  | [], h => .inr h
  | x :: r, h => by
    replace h : @Bool.rec (fun _ => Prop) (hintK r n k d) (k x) (Nat.beq x.at_ n) := h
    rcases brE h with ⟨_, h⟩ | ⟨_, h⟩
    · exact .inl ⟨x, h⟩
    · exact hintK_inv h
/-- The loop leaves the same behind, whatever way it went. -/
theorem ALoop.ends {P : Program} {b : ACode} {Q : AExit → Env → Heap → Prop} {e e1 : Env} {h : Heap} {j N : Nat} {H : List (Nat × AObj)} (hl : ALoop P b (fun x e' h' => endM j e1 N H x e' h' = true) e h) (hq : Q (.exit j) e1 ⟨N, H⟩) : ALoop P b Q e h :=
  ⟨fun n code hm ho hc c w a hr he hn => wp_mono (hl.run n code hm ho hc c w a hr he hn) fun ex a' w' hpost => by
    obtain ⟨c', h', e', x, hx, hr', hext, he', hn', hd', hex⟩ := hpost
    unfold endM at hx
    split at hx
    · rename_i i
      simp only [Bool.and_eq_true] at hx
      obtain ⟨h1, h2, h3, h4⟩ := hx
      obtain rfl := Nat.eq_of_beq_eq_true h1
      have hs : HLe ⟨N, H⟩ h' := ⟨(Nat.eq_of_beq_eq_true h3).symm, fun i o ho => subLk_sub h4 i o ho⟩
      refine ⟨c', ⟨N, H⟩, e1, .exit i, hq, hr'.hle hs, hext.trans hr (Ext.hle hs), fun t => ?_, hn', hd', by cases ex <;> first | exact hex | exact hex.elim⟩
      rcases envB_get h2 t with hg | hg
      · rw [hg]; exact .undef
      · exact (hg.vr (he' t)).hle hs
    · cases hx⟩
theorem lvm_same {P : Program} {T TD : List (Nat × Tab)} {L : List Know} {M : List Hint} : ∀ n v v' p, (lvm P T TD L M n).1.same v v' p → Lk v' v ∧ p
  | 0, v, v', p, h => by
    have h' := asr_iff.1 (show asr (lkB 8 v' v) p from h)
    exact ⟨lkB_lk 8 _ _ h'.1, h'.2⟩
  | n+1, v, v', p, h => by
    have h' := asr_iff.1 (show asr (lkB 8 v' v) p from h)
    exact ⟨lkB_lk 8 _ _ h'.1, h'.2⟩
theorem lvm_sound {P : Program} {T TD : List (Nat × Tab)} {L : List Know} {M : List Hint} (hm : P.follows .mixedOrders = true) (hT : TabsOk P T) (hD : TabsOk P TD) (hL : KnowsOk P L) : ∀ n, (lvm P T TD L M n).1.Ok P ∧ (∀ b Q e h, (lvm P T TD L M n).2.1 b Q e h → ALoop P b Q e h) ∧ (∀ b Q e h, (lvm P T TD L M n).2.2 b Q e h → ARound P b Q n e h)
  | 0 => ⟨⟨fun _ _ _ _ h => h.elim, lvm_same 0⟩, fun _ _ _ _ h => h.elim, fun _ _ _ _ h => h.elim⟩
  | n + 1 => by
    obtain ⟨ih1, ih2, ih3⟩ := lvm_sound (M := M) hm hT hD hL n
    have plain : ∀ b Q e h, plainM P (lvm P T TD L M n) b Q e h → ARound P b Q (n + 1) e h := fun b Q e h hp => ARound.fullC ih1 ih2 (fun e h hp => ih3 b Q e h hp) hp
    have plainL : ∀ b Q e h, plainM P (lvm P T TD L M n) b Q e h → ALoop P b Q e h := fun b Q e h hp => loop_rounds (n + 1) (plain b Q e h hp)
    refine ⟨⟨fun f a h k hp => ?_, lvm_same (n + 1)⟩, fun b Q e h hp => ?_, fun b Q e h hp => plain b Q e h hp⟩
    · have hp' : knowK L f a h k (orK TD f (fun t => asr (Nat.ble a.length t.nt) (awpD P (lvm P T TD L M n).1 (lvm P T TD L M n).2.1 t.code (finD P (delK P T (lvm P T TD L M n).1 (lvm P T TD L M n).2.1) t.rs k) (argEnv 0 a) h []))
        (tabK T f fun t => asr (Nat.ble a.length t.nt) (awpC P (lvm P T TD L M n).1 (lvm P T TD L M n).2.1 t.code (finQ t.rs k) (argEnv 0 a) h))) := hp
      rcases knowK_inv hL hp' with hc | hp'
      · exact hc
      · rcases orK_inv hD hp' with ⟨t, ⟨fn, code, hf, hb, ho, hc, hr, hn⟩, hp'⟩ | hp'
        · replace hp' := asr_iff.1 hp'
          exact acall_of_awpD ih1 ih2 (delK_sound hm hT ih1 ih2) hm hf hb ho hc hr (by rw [← hn]; exact hp'.1) hp'.2
        · obtain ⟨t, ⟨fn, code, hf, hb, ho, hc, hr, hn⟩, hp'⟩ := tabK_inv hT hp'
          replace hp' := asr_iff.1 hp'
          exact acall_of_awpC ih1 ih2 hm hf hb ho hc hr (by rw [← hn]; exact hp'.1) hp'.2
    · obtain ⟨nx, l⟩ := h
      replace hp : @Bool.rec (fun _ => Prop) (plainM P (lvm P T TD L M n) b Q e ⟨nx, l⟩) (hintK M nx (fun t => dropEK t.gone e fun e1 => rmAll l t.rm fun l' => chgAll l' t.chg fun l' => pushAll l' t.new fun l' =>
        plainM P (lvm P T TD L M n) b (fun x e' h' => endM t.out e1 t.nxt l' x e' h' = true) e ⟨nx, l⟩ ∧ Q (.exit t.out) e1 ⟨t.nxt, l'⟩)
        (plainM P (lvm P T TD L M n) b Q e ⟨nx, l⟩)) (nextFirst b) := hp
      rcases brE hp with ⟨_, hp⟩ | ⟨_, hp⟩
      · rcases hintK_inv hp with ⟨t, hp⟩ | hp
        · rw [dropEK_eq] at hp
          obtain ⟨_, hp⟩ := rmAll_inv hp
          obtain ⟨_, hp⟩ := chgAll_inv hp
          obtain ⟨_, h1, h2⟩ := pushAll_inv hp
          exact (plainL _ _ _ _ h1).ends h2
        · exact plainL _ _ _ _ hp
      · exact plainL _ _ _ _ hp
/-- A call is known, for it was reckoned. -/
theorem rcall_lvm {P : Program} {T TD : List (Nat × Tab)} {L : List Know} (M : List Hint) (l : List Nat) (hm : P.follows .mixedOrders = true) (hT : TabsOk P T) (hD : TabsOk P TD) (hL : KnowsOk P L) (n : Nat) (k : Know) (h1 : (k.args.all (litB 8) && (firmB 8 k.v && firmL k.H)) = true)
    (hp : (lvm P T TD L M n).1.call k.f k.args ⟨0, []⟩ (fun r h => endR k.v k.N k.H r h = true)) : RCall P k.f k.args k.v k.N k.H := by
  simp only [Bool.and_eq_true] at h1
  refine ⟨fun a ha => litB_lit 8 a (List.all_eq_true.1 h1.1 a ha), h1.2.1, h1.2.2, ((lvm_sound hm hT hD hL n).1.call _ _ _ _ hp).mono fun r h' hr => ?_⟩
  unfold endR at hr
  split at hr
  · simp only [Bool.and_eq_true] at hr
    exact ⟨by rw [svEq_eq 8 _ _ hr.1], Nat.eq_of_beq_eq_true hr.2.1, fun i o ho => subH_sub hr.2.2 i o ho⟩
  · cases hr
/-- A closed call that comes to a plain value. -/
theorem pcall_lvm {P : Program} {T TD : List (Nat × Tab)} {L : List Know} (M : List Hint) (hm : P.follows .mixedOrders = true) (hT : TabsOk P T) (hD : TabsOk P TD) (hL : KnowsOk P L) (n : Nat) {f : FuncId} {args : List SV} {v : SV} (ha : ∀ a ∈ args, LitV a) (hv : LitV v)
    (hp : (lvm P T TD L M n).1.call f args ⟨0, []⟩ (fun r _ => r = .ret v)) : PCall P f args v :=
  ⟨ha, ((lvm_sound hm hT hD hL n).1.call _ _ _ _ hp).mono fun r h' hr => ⟨v, hr, .lit hv⟩⟩
end Ab
