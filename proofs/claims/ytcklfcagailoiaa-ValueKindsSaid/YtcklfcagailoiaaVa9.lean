/- What kinds promise, values keep: the law's run. -/
import Derived.Test.YtcklfcagailoiaaVa5
namespace Ab
open Go
/-- Arguments told in other words. -/
theorem ACall.conv {P : Program} {f : FuncId} {args args' : List SV} {h : Heap} {R : AEnd → Heap → Prop} (hl : args.length = args'.length)
    (hc : ∀ (i : Nat) (u u' : SV), args[i]? = some u → args'[i]? = some u' → ∀ (c : Cx) (w : World) (x : Value), VR c h w u x → VR c h w u' x) (hp : ACall P f args' h R) : ACall P f args h R := by
  refine ⟨fun c w xs hr hs hv => hp.calls c w xs hr (hs.trans hl) fun i u' x hi hx => ?_⟩
  have hlt : i < args.length := by
    rw [hl]
    rcases Nat.lt_or_ge i args'.length with h | h
    · exact h
    · rw [List.getElem?_eq_none h] at hi; cases hi
  exact hc i _ u' (List.getElem?_eq_getElem hlt) hi c w x (hv i _ x (List.getElem?_eq_getElem hlt) hx)
/-- A second argument that is nil is an empty list. -/
theorem ACall.nil2 {P : Program} {f : FuncId} {a : SV} {sz : Nat} {get : Nat → SV} {h : Heap} {R : AEnd → Heap → Prop} (hp : ACall P f [a, .lst sz 0 get] h R) : ACall P f [a, .nils] h R := by
  refine ACall.conv (args' := [a, .lst sz 0 get]) rfl (fun i u u' h1 h2 c w x hv => ?_) hp
  rcases i with _ | _ | i
  · cases h1; cases h2; exact hv
  · cases h1; cases h2; rw [hv.nils_inv]; exact .pure (.lst0 _ _ _ _)
  · simp at h1

end Ab
namespace Go.Proofs.Ytcklfcagailoiaa
open Ab Go.RowKit
set_option maxRecDepth 100000
set_option linter.unusedSimpArgs false
set_option maxHeartbeats 4000000

theorem takes_le (op : Int) : takes op = 0 ∨ takes op = 1 ∨ takes op = 2 := by unfold takes; (repeat' split) <;> omega
theorem do_any (op : Int) (vs : List V) (h : ∀ v ∈ vs, v.In) : PCall Try.prog 9 [.int .u8 op, lstV vs] (V.two (doV op vs)) := by
  by_cases hb : takes op = 0 ∨ (vs.length : Int) ≠ takes op
  · exact do_bad op vs hb
  · rcases takes_le op with h0 | h0 | h0
    · omega
    · match vs, h, hb with
      | [x], h, hb => exact do1 (h x (by simp)).lo (h x (by simp)).hi h0
      | [], _, hb => simp at hb; omega
      | _ :: _ :: _, _, hb => simp at hb; omega
    · match vs, h, hb with
      | [x, y], h, hb => exact do2 (h x (by simp)).lo (h x (by simp)).hi (h y (by simp)).lo (h y (by simp)).hi h0
      | [], _, hb => simp at hb; omega
      | [_], _, hb => simp at hb; omega
      | _ :: _ :: _ :: _, _, hb => simp at hb; omega
theorem gives_any (op : Int) (ks : List Int) : PCall Try.prog 16 [.int .u8 op, lstK ks] (K2 (givesI op ks)) := by
  by_cases hb : takes op = 0 ∨ (ks.length : Int) ≠ takes op
  · exact gives_bad op ks hb
  · rcases takes_le op with h0 | h0 | h0
    · omega
    · match ks, hb with
      | [x], hb => exact gives1 op x h0
      | [], hb => simp at hb; omega
      | _ :: _ :: _, hb => simp at hb; omega
    · match ks, hb with
      | [x, y], hb => exact gives2 op x y h0
      | [], hb => simp at hb; omega
      | [_], hb => simp at hb; omega
      | _ :: _ :: _ :: _, hb => simp at hb; omega

theorem doV_notok {op : Int} {vs : List V} (h : vs.any (fun v => !okV v) = true) : (doV op vs).2 = 2 := by
  unfold doV
  by_cases hb : takes op = 0 ∨ (vs.length : Int) ≠ takes op
  · rw [if_pos hb]
  · rw [if_neg hb, if_pos h]

/-- What the law asks at the end. -/
def kindsOk (op : Int) (vs : List V) : Prop :=
  ((givesI op (vs.map (·.k))).2 ≠ 0 → (doV op vs).2 = (givesI op (vs.map (·.k))).2 ∧ (doV op vs).1 = vnull) ∧
  ((givesI op (vs.map (·.k))).2 = 0 → (doV op vs).2 ≠ 0 → ((doV op vs).2 = 221 ∨ (doV op vs).2 = 222 ∨ (doV op vs).2 = 3) ∧ (doV op vs).1 = vnull) ∧
  ((givesI op (vs.map (·.k))).2 = 0 → (doV op vs).2 = 0 → okV (doV op vs).1 = true ∧ ((doV op vs).1.k = (givesI op (vs.map (·.k))).1 ∨ (doV op vs).1.k = 0))
theorem okV_int (n : Int) : okV (vint n) = true := by simp [okV, vint]
theorem okV_bool (b : Bool) : okV (vbool b) = true := by cases b <;> simp [okV, vbool]
theorem okV_null : okV vnull = true := by simp [okV, vnull]
theorem numV_cases (op a b : Int) : (∃ n, numV op a b = (vint n, 0)) ∨ (∃ e, (e = 221 ∨ e = 222) ∧ numV op a b = (vnull, e)) := by
  have key : (numI op a b).2 = 0 ∨ (numI op a b).2 = 221 ∨ (numI op a b).2 = 222 := by
    unfold numI
    (repeat' split) <;> simp
  rcases key with h | h | h
  · exact .inl ⟨_, by unfold numV; rw [if_pos h]⟩
  · exact .inr ⟨221, .inl rfl, by unfold numV; rw [if_neg (by rw [h]; decide), h]⟩
  · exact .inr ⟨222, .inr rfl, by unfold numV; rw [if_neg (by rw [h]; decide), h]⟩
theorem kinds_num {op a b k : Int} : ∀ {p : V × Int}, p = numV op a b → k = 2 → (p.2 ≠ 0 → (p.2 = 221 ∨ p.2 = 222 ∨ p.2 = 3) ∧ p.1 = vnull) ∧ (p.2 = 0 → okV p.1 = true ∧ (p.1.k = k ∨ p.1.k = 0)) := by
  intro p hp hk
  subst hp; subst hk
  rcases numV_cases op a b with ⟨n, h⟩ | ⟨e, he, h⟩ <;> rw [h]
  · exact ⟨fun h => absurd rfl h, fun _ => ⟨okV_int n, .inl rfl⟩⟩
  · refine ⟨fun _ => ⟨by rcases he with rfl | rfl <;> simp, rfl⟩, fun h => ?_⟩
    exfalso
    rcases he with rfl | rfl <;> simp at h
theorem allK_any {w : Int} {vs : List V} (h : allK w (vs.map (·.k)) = true) (hn : (vs.any fun v => v.k == 0) = false) : ∀ v ∈ vs, v.k = w := by
  intro v hv
  unfold allK at h
  rw [List.all_eq_true] at h
  have h1 := h v.k (List.mem_map.2 ⟨v, hv, rfl⟩)
  have h2 : ¬ (v.k == 0) = true := fun h3 => by
    have : (vs.any fun v => v.k == 0) = true := List.any_eq_true.2 ⟨v, hv, h3⟩
    rw [hn] at this; cases this
  simp at h1 h2
  omega

theorem gives_kind {op : Int} {ks : List Int} (h0 : takes op ≠ 0) (hl : (ks.length : Int) = takes op) (hg : (givesI op ks).2 = 0) : (givesI op ks).1 = (if (3 ≤ op ∧ op ≤ 7) ∨ op = 18 then 2 else if op = 8 then 3 else 1) := by
  unfold givesI at hg ⊢
  rw [if_neg (by omega)] at hg ⊢
  by_cases hany : (ks.any fun k => decide (3 < k)) = true
  · rw [if_pos hany] at hg; simp at hg
  rw [if_neg hany] at hg ⊢
  by_cases a1 : (3 ≤ op ∧ op ≤ 7) ∨ op = 18
  · rw [if_pos a1] at hg ⊢
    rw [if_pos a1]
    by_cases q : allK 2 ks = true
    · rw [if_pos q]
    · rw [if_neg q] at hg; simp at hg
  rw [if_neg a1] at hg ⊢
  rw [if_neg a1]
  by_cases a2 : op = 8
  · rw [if_pos a2] at hg ⊢
    rw [if_pos a2]
    by_cases q : allK 3 ks = true
    · rw [if_pos q]
    · rw [if_neg q] at hg; simp at hg
  rw [if_neg a2] at hg ⊢
  rw [if_neg a2]
  by_cases a3 : op = 15 ∨ op = 16 ∨ op = 17
  · rw [if_pos a3] at hg ⊢
    by_cases q : allK 1 ks = true
    · rw [if_pos q]
    · rw [if_neg q] at hg; simp at hg
  rw [if_neg a3] at hg ⊢
  by_cases a4 : op = 19 ∨ op = 20
  · rw [if_pos a4]
  rw [if_neg a4] at hg ⊢
  by_cases q : allK (max (ks.getD 0 0) (ks.getD 1 0)) ks = true
  · rw [if_pos q]
  · rw [if_neg q] at hg; simp at hg
theorem takes1' {op : Int} (h : takes op = 1) : op = 17 ∨ op = 18 ∨ op = 19 ∨ op = 20 := takes1 h
/-- Where values may be and kinds go together: what comes out. -/
theorem kinds_on {op : Int} {vs : List V} (h0 : takes op ≠ 0) (hl : (vs.length : Int) = takes op) (hok : ∀ v ∈ vs, okV v = true) (hg : (givesI op (vs.map (·.k))).2 = 0) :
    ((doOn op vs).2 ≠ 0 → ((doOn op vs).2 = 221 ∨ (doOn op vs).2 = 222 ∨ (doOn op vs).2 = 3) ∧ (doOn op vs).1 = vnull) ∧
    ((doOn op vs).2 = 0 → okV (doOn op vs).1 = true ∧ ((doOn op vs).1.k = (givesI op (vs.map (·.k))).1 ∨ (doOn op vs).1.k = 0)) := by
  have kb : ∀ b : Bool, (vbool b).k = 1 := fun b => rfl
  have fine : ∀ {v : V} {k : Int}, okV v = true → (v.k = k ∨ v.k = 0) → (((v, (0 : Int)).2 ≠ 0 → ((v, (0 : Int)).2 = 221 ∨ (v, (0 : Int)).2 = 222 ∨ (v, (0 : Int)).2 = 3) ∧ (v, (0 : Int)).1 = vnull) ∧ ((v, (0 : Int)).2 = 0 → okV (v, (0 : Int)).1 = true ∧ ((v, (0 : Int)).1.k = k ∨ (v, (0 : Int)).1.k = 0))) :=
    fun h1 h2 => ⟨fun h => absurd rfl h, fun _ => ⟨h1, h2⟩⟩
  have hops : (3 ≤ op ∧ op ≤ 16) ∨ (17 ≤ op ∧ op ≤ 20) := by unfold takes at h0; (repeat' split at h0) <;> omega
  have hlen : vs.length = 1 ∨ vs.length = 2 := by rcases takes_le op with h | h | h <;> omega
  -- the kind that is given
  have gk := gives_kind h0 (by rw [List.length_map]; exact hl) hg
  rw [gk]
  unfold doOn
  dsimp only
  by_cases h19 : op = 19
  · rw [if_pos h19, if_neg (by omega), if_neg (by omega)]; exact fine (okV_bool _) (.inl (kb _))
  rw [if_neg h19]
  by_cases h20 : op = 20
  · rw [if_pos h20, if_neg (by omega), if_neg (by omega)]; exact fine (okV_bool _) (.inl (kb _))
  rw [if_neg h20]
  by_cases c1 : op = 15 ∧ (isF (vs.getD 0 vnull) || isF (vs.getD 1 vnull)) = true
  · rw [if_pos c1, if_neg (by omega), if_neg (by omega)]; exact fine (okV_bool _) (.inl (kb _))
  rw [if_neg c1]
  by_cases c2 : op = 16 ∧ (isT (vs.getD 0 vnull) || isT (vs.getD 1 vnull)) = true
  · rw [if_pos c2, if_neg (by omega), if_neg (by omega)]; exact fine (okV_bool _) (.inl (kb _))
  rw [if_neg c2]
  cases hn : vs.any fun v => v.k == 0 with
  | true => exact fine okV_null (.inr rfl)
  | false =>
  rw [if_neg (by decide)]
  by_cases c3 : op = 15
  · rw [if_pos c3, if_neg (by omega), if_neg (by omega)]; exact fine (okV_bool _) (.inl (kb _))
  rw [if_neg c3]
  by_cases c4 : op = 16
  · rw [if_pos c4, if_neg (by omega), if_neg (by omega)]; exact fine (okV_bool _) (.inl (kb _))
  rw [if_neg c4]
  by_cases c5 : op = 17
  · rw [if_pos c5, if_neg (by omega), if_neg (by omega)]; exact fine (okV_bool _) (.inl (kb _))
  rw [if_neg c5]
  by_cases c6 : op = 18
  · rw [if_pos c6]; exact kinds_num rfl (by rw [if_pos (.inr c6)])
  rw [if_neg c6]
  by_cases c7 : op = 8
  · rw [if_pos c7]
    subst c7
    have hks : allK 3 (vs.map (·.k)) = true := by
      unfold givesI at hg
      rw [List.length_map, if_neg (by omega)] at hg
      split at hg
      · simp at hg
      · rw [if_neg (by omega), if_pos rfl] at hg
        split at hg
        · assumption
        · simp at hg
    have hk := allK_any hks hn
    split
    · exact ⟨fun _ => ⟨.inr (.inr rfl), rfl⟩, fun h => by simp at h⟩
    · rename_i h64
      refine fine ?_ (.inl (by rw [if_neg (by omega), if_pos rfl]))
      unfold okV
      dsimp only
      rw [if_neg (by decide), if_neg (by decide), if_neg (by decide), if_pos rfl]
      simp only [beq_self_eq_true, Bool.true_and, decide_eq_true_eq, List.length_append]
      omega
  rw [if_neg c7]
  by_cases c8 : 3 ≤ op ∧ op ≤ 7
  · rw [if_pos c8]; exact kinds_num rfl (by rw [if_pos (.inl c8)])
  rw [if_neg c8, if_neg (by omega), if_neg (by omega)]
  exact fine (okV_bool _) (.inl (kb _))

theorem kinds_ok {op : Int} {vs : List V} (hok : ∀ v ∈ vs, okV v = true) : kindsOk op vs := by
  have hany : ¬ (vs.any fun v => !okV v) = true := fun h => by
    obtain ⟨v, hv, h1⟩ := List.any_eq_true.1 h
    rw [hok v hv] at h1; cases h1
  unfold kindsOk doV
  by_cases hb : takes op = 0 ∨ (vs.length : Int) ≠ takes op
  · have hg : givesI op (vs.map (·.k)) = (0, 2) := by unfold givesI; rw [List.length_map, if_pos hb]
    rw [if_pos hb, hg]
    exact ⟨fun _ => ⟨rfl, rfl⟩, fun h => by simp at h, fun h => by simp at h⟩
  · rw [if_neg hb, if_neg hany]
    by_cases hg : (givesI op (vs.map (·.k))).2 = 0
    · rw [if_neg (by simpa using hg)]
      obtain ⟨h1, h2⟩ := kinds_on (by omega) (by omega) hok hg
      exact ⟨fun h => absurd hg h, fun _ => h1, fun _ => h2⟩
    · rw [if_pos hg]
      exact ⟨fun _ => ⟨rfl, rfl⟩, fun h => absurd h hg, fun h => absurd h hg⟩
end Go.Proofs.Ytcklfcagailoiaa
