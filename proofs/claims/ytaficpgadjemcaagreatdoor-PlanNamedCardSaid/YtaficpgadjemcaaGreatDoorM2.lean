/- Parts of the proof of PnP, one behind the other. -/
import Derived.Test.YtaficpgadjemcaaGreatDoorM1
import Derived.Laws.StructEq
import Derived.Laws.Strings
import Derived.Laws.Cover1
import Derived.Deep.AppendSrc
namespace Ab
set_option linter.unusedVariables false
set_option linter.unusedSimpArgs false
open Go
section
variable {P : Program} {Γ : CallR} {c : Cx} {h : Heap} {w : World} {e : Env} {a : Act} {o : Oper} {k kp : SV → Heap → Prop}

theorem Sees.of (v : SV) (x : Value) (hk : k v h) (hrun : (execOp a.eval o).run P w = .ok (.value x) w) (hv : VR c h w v x) : Sees P c h w a o k := ⟨v, x, hk, hrun, hv⟩

theorem sees_mov (he : ER c h w e a.tmps) {x : Operand} (ho : o.op = .move x ∨ o.op = .assign x) (hp : aop P Γ (.mov (cOpd x)) e h k kp) : Sees P c h w a o k := by
  simp only [aop, evK_eq] at hp
  refine .of _ (a.eval x) hp ?_ (he.ev x)
  rcases ho with ho | ho <;> simp [execOp, ho]

theorem sees_pick (he : ER c h w e a.tmps) {x y z : Operand} (ho : o.op = .pick x y z) (hp : aop P Γ (.pick (cOpd x) (cOpd y) (cOpd z)) e h k kp) : Sees P c h w a o k := by
  simp only [aop, evK_eq] at hp
  have hx := he.ev x
  have hy := he.ev y
  have hz := he.ev z
  split at hp
  · rename_i b hb
    rw [hb] at hx
    have hx := hx.bool_inv
    have hrun : (execOp a.eval o).run P w = .ok (.value (if b then a.eval y else a.eval z)) w := by simp [execOp, ho, hx, asBool]
    cases b
    · exact .of _ _ hp hrun hz
    · exact .of _ _ hp hrun hy
  · exact hp.elim

theorem kEq_iff {k k' : IntKind} : kEq k k' = true ↔ k = k' := by cases k <;> cases k' <;> simp [kEq]

theorem arith_run (op : BinOp) (t : TypeId) {kk k' : IntKind} {m n : Int} {K : SV → Prop} (hp : arith op kk k' m n K) :
    ∃ v x, K v ∧ (binOp op t (.int kk m) (.int k' n)).run P w = .ok x w ∧ VR c h w v x := by
  by_cases hsh : op = .shl ∨ op = .shr
  · rcases hsh with rfl | rfl
    · simp only [arith] at hp
      replace hp := asr_iff.1 hp
      obtain ⟨h0, hp⟩ := hp
      simp only [decide_eq_true_eq] at h0
      exact ⟨_, _, hp, by simp [binOp_shl, Op.shift, Int.not_lt.2 h0], .int⟩
    · simp only [arith] at hp
      replace hp := asr_iff.1 hp
      obtain ⟨h0, hp⟩ := hp
      simp only [decide_eq_true_eq] at h0
      exact ⟨_, _, hp, by simp [binOp_shr, Op.shift, Int.not_lt.2 h0], .int⟩
  have hkk : kk = k' := by
    cases op <;> first | exact absurd (.inl rfl) hsh | exact absurd (.inr rfl) hsh | exact kEq_iff.1 (asr_iff.1 hp).1
  subst hkk
  cases op <;> first | exact absurd (.inl rfl) hsh | exact absurd (.inr rfl) hsh | skip
  all_goals (simp only [arith] at hp; replace hp := (asr_iff.1 hp).2)
  case quo =>
    replace hp := asr_iff.1 hp
    obtain ⟨h0, hp⟩ := hp
    simp only [Bool.not_eq_true', decide_eq_false_iff_not] at h0
    exact ⟨_, _, hp, by simp [binOp_quo, Op.intDiv, h0], .int⟩
  case rem =>
    replace hp := asr_iff.1 hp
    obtain ⟨h0, hp⟩ := hp
    simp only [Bool.not_eq_true', decide_eq_false_iff_not] at h0
    exact ⟨_, _, hp, by simp [binOp_rem, Op.intDiv, h0], .int⟩
  case add => exact ⟨_, _, hp, by simp [binOp_add, Op.intArith], .int⟩
  case sub => exact ⟨_, _, hp, by simp [binOp_sub, Op.intArith], .int⟩
  case mul => exact ⟨_, _, hp, by simp [binOp_mul, Op.intArith], .int⟩
  case and => exact ⟨_, _, hp, by simp [binOp_and, Op.intBits, bitsI], .int⟩
  case or => exact ⟨_, _, hp, by simp [binOp_or, Op.intBits, bitsI], .int⟩
  case xor => exact ⟨_, _, hp, by simp [binOp_xor, Op.intBits, bitsI], .int⟩
  case andNot => exact ⟨_, _, hp, by simp [binOp_andNot, Op.intBits, bitsI], .int⟩
  case eql => exact ⟨_, _, hp, by simp [binOp_eql], .bool⟩
  case neq => exact ⟨_, _, hp, by simp [binOp_neq], .bool⟩
  case lss => exact ⟨_, _, hp, by simp [binOp_lss], .bool⟩
  case leq => exact ⟨_, _, hp, by simp [binOp_leq], .bool⟩
  case gtr => exact ⟨_, _, hp, by simp [binOp_gtr], .bool⟩
  case geq => exact ⟨_, _, hp, by simp [binOp_geq], .bool⟩

theorem strOp_run (op : BinOp) (t : TypeId) {m n : List UInt8} {K : SV → Prop} (hp : strOp op m n K) :
    ∃ v x, K v ∧ (binOp op t (.string ⟨m.toArray⟩) (.string ⟨n.toArray⟩)).run P w = .ok x w ∧ VR c h w v x := by
  cases op <;> simp only [strOp] at hp <;> try exact hp.elim
  case add =>
    obtain ⟨h0, hp⟩ := asr_iff.1 hp
    simp only [decide_eq_true_eq] at h0
    refine ⟨_, _, hp, ?_, .str⟩
    have hs : (ByteArray.mk m.toArray).size = m.length := by simp [ByteArray.size]
    have hs' : (ByteArray.mk n.toArray).size = n.length := by simp [ByteArray.size]
    have : ¬ ((m.length + n.length : Nat) : Int) > IntKind.i64.max := by simp; omega
    simp only [binOp, Op.stringOp, hs, hs', this, if_false]
    have hap : (ByteArray.mk m.toArray ++ ByteArray.mk n.toArray) = ByteArray.mk (m ++ n).toArray := by
      apply ByteArray.ext
      simp
    rw [hap]
    rfl
  case eql => exact ⟨_, _, hp, by simp [binOp_string_eql], .bool⟩
  case neq => exact ⟨_, _, hp, by simp [binOp_string_neq], .bool⟩
  case lss => exact ⟨_, _, hp, by simp [binOp_string_lss, strLess], .bool⟩
  case leq => exact ⟨_, _, hp, by simp [binOp_string_leq, strLess], .bool⟩
  case gtr => exact ⟨_, _, hp, by simp [binOp_string_gtr, strLess], .bool⟩
  case geq => exact ⟨_, _, hp, by simp [binOp_string_geq, strLess], .bool⟩

theorem eqCells_run (d : Nat) (xs ys : Array Value) : ∀ (fs : List Field) (off : Nat) (l m : List SV) (p : Bool) (ks : List EqK), eqKinds P off fs = some ks →
    (∀ (i : Nat) (v : SV) (x : Value), l[i]? = some v → xs[off + i]? = some x → VR c h w v x) → (∀ (i : Nat) (v : SV) (x : Value), m[i]? = some v → ys[off + i]? = some x → VR c h w v x) →
    off + l.length ≤ xs.size → off + m.length ≤ ys.size →
    eqCells ks l m = some p → (Op.eqFields (d + 1) xs ys fs).run P w = .ok p w
  | [], off, l, m, p, ks, hk, _, _, _, _, hq => by
    simp only [eqKinds, Option.some.injEq] at hk
    subst hk
    simp only [eqCells, Option.some.injEq] at hq
    subst hq
    rfl
  | f :: fs, off, l, m, p, ks, hk, hl, hm, hxl, hym, hq => by
    simp only [eqKinds] at hk
    cases hcond : (f.name != "_" && Nat.beq f.offset off)
    · rw [hcond] at hk; cases hk
    rw [hcond] at hk
    simp only [cond_true] at hk
    simp only [Bool.and_eq_true] at hcond
    obtain ⟨hn, ho⟩ := hcond
    have ho0 := Nat.eq_of_beq_eq_true ho
    have hty : ∃ ek es, ks = ek :: es ∧ eqKinds P (off + 1) fs = some es ∧ isAggT P f.type = some false ∧
        (match ek with | .int => ∃ k, P.underlying f.type = some (.int k) | .str => P.underlying f.type = some .string | .bool => P.underlying f.type = some .bool) := by
      unfold isAggT
      split at hk
      · rename_i k hu
        obtain ⟨es, h1, h2⟩ := Option.map_eq_some_iff.1 hk
        exact ⟨_, es, h2.symm, h1, by simp [hu], ⟨k, hu⟩⟩
      · rename_i hu
        obtain ⟨es, h1, h2⟩ := Option.map_eq_some_iff.1 hk
        exact ⟨_, es, h2.symm, h1, by simp [hu], hu⟩
      · rename_i hu
        obtain ⟨es, h1, h2⟩ := Option.map_eq_some_iff.1 hk
        exact ⟨_, es, h2.symm, h1, by simp [hu], hu⟩
      · cases hk
    obtain ⟨ek, es, rfl, hks, hag, hu⟩ := hty
    cases l with
    | nil => simp [eqCells] at hq
    | cons x l =>
    cases m with
    | nil => simp [eqCells] at hq
    | cons y m =>
    simp only [List.length_cons] at hxl hym
    have hxo : off < xs.size := by omega
    have hyo : off < ys.size := by omega
    have hxg : xs[off]? = some xs[off] := Array.getElem?_eq_getElem hxo
    have hyg : ys[off]? = some ys[off] := Array.getElem?_eq_getElem hyo
    have hx0 := hl 0 x xs[off] rfl hxg
    have hy0 := hm 0 y ys[off] rfl hyg
    have hpart : ∀ (zs : Array Value) z, zs[off]? = some z → (part f.type zs f.offset).run P w = .ok z w := by
      intro zs z hz
      simp [part, isAgg_run hag, ho0, hz]
    unfold eqCells at hq
    generalize hhd : eqOne ek x y = hd at hq
    have hhead : ∀ q, hd = some q → (Op.equalIn (d + 1) f.type xs[off] ys[off]).run P w = .ok q w := by
      intro q hqq
      subst hqq
      unfold eqOne at hhd
      split at hhd
      · rename_i k a k' b
        split at hhd
        · rename_i hkk
          cases hhd
          obtain ⟨kk, hu⟩ := hu
          rw [hx0.int_inv, hy0.int_inv, kEq_iff.1 hkk]
          exact run_equalIn_int w d f.type k' kk a b hu
        · cases hhd
      · cases hhd
        rw [hx0.str_inv, hy0.str_inv, run_equalIn_string w d f.type _ _ hu]
        simp
      · cases hhd
        rw [hx0.bool_inv, hy0.bool_inv]
        exact run_equalIn_bool' w d f.type _ _ hu
      · cases hhd
    have hn' : f.name ≠ "_" := by simpa using hn
    cases hd with
    | none => exact absurd hq (by simp)
    | some q =>
    dsimp only at hq
    have hrun := hhead q rfl
    simp only [Op.eqFields, hn', ne_eq, not_false_eq_true, if_true, Sem.run_bind, hpart xs _ hxg, hpart ys _ hyg, Result.andThen_ok, hrun]
    have hrest : ∀ q', eqCells es l m = some q' → (Op.eqFields (d + 1) xs ys fs).run P w = .ok q' w := fun q' hq' =>
      eqCells_run d xs ys fs (off + 1) l m q' es hks (fun i v z hv hz => hl (i + 1) v z (by simpa using hv) (by simpa [Nat.add_assoc, Nat.add_comm 1 i] using hz))
        (fun i v z hv hz => hm (i + 1) v z (by simpa using hv) (by simpa [Nat.add_assoc, Nat.add_comm 1 i] using hz)) (by omega) (by omega) hq'
    split at hq
    · cases hq
      have := hrest true (by simp [eqCells])
      cases p <;> simp [this]
    · obtain ⟨q', hq', rfl⟩ := Option.map_eq_some_iff.1 hq
      cases q
      · simp
      · simp [hrest q' hq']

theorem eqCells_cons {e : EqK} {es : List EqK} {l m : List SV} {p : Bool} (hq : eqCells (e :: es) l m = some p) : ∃ x l' y m' q0 q, l = x :: l' ∧ m = y :: m' ∧ eqOne e x y = some q0 ∧ eqCells es l' m' = some q ∧ p = (q0 && q) := by
  cases l with
  | nil => simp [eqCells] at hq
  | cons x l =>
  cases m with
  | nil => simp [eqCells] at hq
  | cons y m =>
  unfold eqCells at hq
  cases h1 : eqOne e x y with
  | none => rw [h1] at hq; simp at hq
  | some q0 =>
    rw [h1] at hq
    dsimp only at hq
    split at hq
    · cases hq
      exact ⟨x, l, y, m, p, true, rfl, rfl, h1, by simp [eqCells], by simp⟩
    · obtain ⟨q, hq', rfl⟩ := Option.map_eq_some_iff.1 hq
      exact ⟨x, l, y, m, q0, q, rfl, rfl, h1, hq', rfl⟩
theorem eqCells_mk {e : EqK} {es : List EqK} {x y : SV} {l m : List SV} {q0 q : Bool} (h0 : eqOne e x y = some q0) (h1 : eqCells es l m = some q) : eqCells (e :: es) (x :: l) (y :: m) = some (q0 && q) := by
  unfold eqCells
  rw [h0]
  cases es with
  | nil => simp only [eqCells, Option.some.injEq] at h1; subst h1; simp
  | cons e' es => simp [h1]
theorem eqCells_append : ∀ {k1 k2 : List EqK} {l m : List SV} {p : Bool}, eqCells (k1 ++ k2) l m = some p →
    ∃ q1 q2, eqCells k1 (l.take k1.length) (m.take k1.length) = some q1 ∧ eqCells k2 (l.drop k1.length) (m.drop k1.length) = some q2 ∧ p = (q1 && q2)
  | [], k2, l, m, p, hq => ⟨true, p, by simp [eqCells], hq, by simp⟩
  | e :: k1, k2, l, m, p, hq => by
    obtain ⟨x, l', y, m', q0, q, rfl, rfl, h1, h2, rfl⟩ := eqCells_cons hq
    obtain ⟨q1, q2, h3, h4, rfl⟩ := eqCells_append h2
    exact ⟨q0 && q1, q2, by simpa using eqCells_mk h1 h3, by simpa using h4, by simp [Bool.and_assoc]⟩
theorem eqCells_len : ∀ {k1 : List EqK} {l m : List SV} {p : Bool}, eqCells k1 l m = some p → k1.length ≤ l.length ∧ k1.length ≤ m.length
  | [], l, m, p, _ => ⟨Nat.zero_le _, Nat.zero_le _⟩
  | e :: k1, l, m, p, hq => by
    obtain ⟨x, l', y, m', q0, q, rfl, rfl, h1, h2, rfl⟩ := eqCells_cons hq
    have := eqCells_len h2
    simp only [List.length_cons]
    omega
theorem eqCells2_run (d : Nat) (xs ys : Array Value) : ∀ (fs : List Field) (off : Nat) (l m : List SV) (p : Bool) (ks : List EqK), eqKinds2 P off fs = some ks →
    (∀ (i : Nat) (v : SV) (x : Value), l[i]? = some v → xs[off + i]? = some x → VR c h w v x) → (∀ (i : Nat) (v : SV) (x : Value), m[i]? = some v → ys[off + i]? = some x → VR c h w v x) →
    off + l.length ≤ xs.size → off + m.length ≤ ys.size →
    eqCells ks l m = some p → (Op.eqFields (d + 2) xs ys fs).run P w = .ok p w
  | [], off, l, m, p, ks, hk, _, _, _, _, hq => by
    simp only [eqKinds2, Option.some.injEq] at hk
    subst hk
    simp only [eqCells, Option.some.injEq] at hq
    subst hq
    rfl
  | f :: fs, off, l, m, p, ks, hk, hl, hm, hxl, hym, hq => by
    simp only [eqKinds2] at hk
    cases hcond : (f.name != "_" && Nat.beq f.offset off)
    · rw [hcond] at hk; cases hk
    rw [hcond] at hk
    simp only [cond_true] at hk
    simp only [Bool.and_eq_true] at hcond
    obtain ⟨hn, ho⟩ := hcond
    have ho0 := Nat.eq_of_beq_eq_true ho
    have hn' : f.name ≠ "_" := by simpa using hn
    have hty : (∃ ek es, ks = ek :: es ∧ eqKinds2 P (off + 1) fs = some es ∧ isAggT P f.type = some false ∧
        (match ek with | .int => ∃ k, P.underlying f.type = some (.int k) | .str => P.underlying f.type = some .string | .bool => P.underlying f.type = some .bool)) ∨
        (∃ k1 es gs i, ks = k1 ++ es ∧ eqKinds2 P (off + k1.length) fs = some es ∧ isAggT P f.type = some true ∧ P.underlying f.type = some (.struct gs) ∧ P.stoodInHeld f.type = false ∧ eqKinds P 0 gs.toList = some k1 ∧ P.info? f.type = some i ∧ i.size = k1.length) := by
      unfold isAggT
      split at hk
      · rename_i k hu
        obtain ⟨es, h1, h2⟩ := Option.map_eq_some_iff.1 hk
        exact .inl ⟨_, es, h2.symm, h1, by simp [hu], ⟨k, hu⟩⟩
      · rename_i hu
        obtain ⟨es, h1, h2⟩ := Option.map_eq_some_iff.1 hk
        exact .inl ⟨_, es, h2.symm, h1, by simp [hu], hu⟩
      · rename_i hu
        obtain ⟨es, h1, h2⟩ := Option.map_eq_some_iff.1 hk
        exact .inl ⟨_, es, h2.symm, h1, by simp [hu], hu⟩
      · rename_i gs hu
        cases hst : P.stoodInHeld f.type
        · rw [hst] at hk
          simp only [cond_false] at hk
          split at hk
          · rename_i k1 i hk1 hi
            cases hsz : Nat.beq i.size k1.length
            · rw [hsz] at hk; cases hk
            · rw [hsz] at hk
              simp only [cond_true] at hk
              obtain ⟨es, h1, h2⟩ := Option.map_eq_some_iff.1 hk
              exact .inr ⟨k1, es, gs, i, h2.symm, h1, by simp [hu], hu, rfl, hk1, hi, Nat.eq_of_beq_eq_true hsz⟩
          · cases hk
        · rw [hst] at hk; cases hk
      · cases hk
    rcases hty with ⟨ek, es, rfl, hks, hag, hu⟩ | ⟨k1, es, gs, i, rfl, hks, hag, hu, hst, hk1, hi, hsz⟩
    · obtain ⟨x, l', y, m', q, q', rfl, rfl, hhd, hq', rfl⟩ := eqCells_cons hq
      simp only [List.length_cons] at hxl hym
      have hxo : off < xs.size := by omega
      have hyo : off < ys.size := by omega
      have hxg : xs[off]? = some xs[off] := Array.getElem?_eq_getElem hxo
      have hyg : ys[off]? = some ys[off] := Array.getElem?_eq_getElem hyo
      have hx0 := hl 0 x xs[off] rfl hxg
      have hy0 := hm 0 y ys[off] rfl hyg
      have hpart : ∀ (zs : Array Value) z, zs[off]? = some z → (part f.type zs f.offset).run P w = .ok z w := by
        intro zs z hz
        simp [part, isAgg_run hag, ho0, hz]
      have hrun : (Op.equalIn (d + 2) f.type xs[off] ys[off]).run P w = .ok q w := by
        unfold eqOne at hhd
        split at hhd
        · rename_i k a k' b
          split at hhd
          · rename_i hkk
            cases hhd
            obtain ⟨kk, hu⟩ := hu
            rw [hx0.int_inv, hy0.int_inv, kEq_iff.1 hkk]
            exact run_equalIn_int w (d + 1) f.type k' kk a b hu
          · cases hhd
        · cases hhd
          rw [hx0.str_inv, hy0.str_inv, run_equalIn_string w (d + 1) f.type _ _ hu]
          simp
        · cases hhd
          rw [hx0.bool_inv, hy0.bool_inv]
          exact run_equalIn_bool' w (d + 1) f.type _ _ hu
        · cases hhd
      simp only [Op.eqFields, hn', ne_eq, not_false_eq_true, if_true, Sem.run_bind, hpart xs _ hxg, hpart ys _ hyg, Result.andThen_ok, hrun]
      have hrest := eqCells2_run d xs ys fs (off + 1) l' m' q' es hks (fun i v z hv hz => hl (i + 1) v z (by simpa using hv) (by simpa [Nat.add_assoc, Nat.add_comm 1 i] using hz))
          (fun i v z hv hz => hm (i + 1) v z (by simpa using hv) (by simpa [Nat.add_assoc, Nat.add_comm 1 i] using hz)) (by omega) (by omega) hq'
      cases q
      · simp
      · simp [hrest]
    · obtain ⟨q, q', hhd, hq', rfl⟩ := eqCells_append hq
      have hfo : P.fieldsOf f.type = gs := by simp [Program.fieldsOf, hu]
      have hpart : ∀ (zs : Array Value), (part f.type zs f.offset).run P w = .ok (.agg (zs.extract off (off + k1.length))) w := by
        intro zs
        simp [part, isAgg_run hag, ho0, sizeOf_run hi, hsz]
      have hrun : (Op.equalIn (d + 2) f.type (.agg (xs.extract off (off + k1.length))) (.agg (ys.extract off (off + k1.length)))).run P w = .ok q w := by
        rw [run_equalIn_struct (P := P) w (d + 1) f.type _ _ (by rw [hfo]; exact hu) hst, hfo]
        refine eqCells_run (c := c) (h := h) d _ _ gs.toList 0 (l.take k1.length) (m.take k1.length) q k1 hk1 (fun j v z hv hz => ?_) (fun j v z hv hz => ?_) (by simp; omega) (by simp; omega) hhd
        · rw [List.getElem?_take] at hv
          split at hv
          · rw [Array.getElem?_extract] at hz
            split at hz
            · exact hl j v z hv (by simpa using hz)
            · cases hz
          · cases hv
        · rw [List.getElem?_take] at hv
          split at hv
          · rw [Array.getElem?_extract] at hz
            split at hz
            · exact hm j v z hv (by simpa using hz)
            · cases hz
          · cases hv
      simp only [Op.eqFields, hn', ne_eq, not_false_eq_true, if_true, Sem.run_bind, hpart xs, hpart ys, Result.andThen_ok, hrun]
      have hrest := eqCells2_run d xs ys fs (off + k1.length) (l.drop k1.length) (m.drop k1.length) q' es hks
          (fun j v z hv hz => hl (k1.length + j) v z (by rw [List.getElem?_drop] at hv; exact hv) (by rw [Nat.add_assoc] at hz; exact hz))
          (fun j v z hv hz => hm (k1.length + j) v z (by rw [List.getElem?_drop] at hv; exact hv) (by rw [Nat.add_assoc] at hz; exact hz)) (by
            have hlen := eqCells_len hhd
            simp at hlen ⊢
            omega) (by
            have hlen := eqCells_len hhd
            simp at hlen ⊢
            omega) hq'
      cases q
      · simp
      · simp [hrest]

theorem sees_bin (he : ER c h w e a.tmps) {op : BinOp} {t yt : TypeId} {x y : Operand} (ho : o.op = .binOp op t x y yt) (hp : aop P Γ (.bin op (cOpd x) (cOpd y)) e h k kp) : Sees P c h w a o k := by
  simp only [aop, evK_eq] at hp
  have hx := he.ev x
  have hy := he.ev y
  split at hp
  · rename_i h1 h2
    rw [h1] at hx; rw [h2] at hy
    obtain ⟨v, z, hk, hr, hv⟩ := arith_run (P := P) (c := c) (h := h) (w := w) op t hp
    refine .of v z hk ?_ hv
    simp [execOp, ho, hx.int_inv, hy.int_inv, eqGuard_at_int, hr]
  · rename_i h1 h2
    rw [h1] at hx; rw [h2] at hy
    obtain ⟨v, z, hk, hr, hv⟩ := strOp_run (P := P) (c := c) (h := h) (w := w) op t hp
    refine .of v z hk ?_ hv
    simp [execOp, ho, hx.str_inv, hy.str_inv, eqGuard_at_string, hr]
  · exact hp.elim

theorem sees_eqB (he : ER c h w e a.tmps) {neg : Bool} {t yt : TypeId} {x y : Operand} (ho : o.op = .binOp (if neg then .neq else .eql) t x y yt) (hu : P.underlying t = some .bool)
    (hp : aop P Γ (.eqB neg (cOpd x) (cOpd y)) e h k kp) : Sees P c h w a o k := by
  simp only [aop, evK_eq] at hp
  have hx := he.ev x
  have hy := he.ev y
  split at hp
  · rename_i p q h1 h2
    rw [h1] at hx; rw [h2] at hy
    have hq : (Op.equal t (.bool p) (.bool q)).run P w = .ok (p == q) w := run_equalIn_bool' w 9999 t p q hu
    cases neg
    · refine .of _ _ hp ?_ .bool
      simp [execOp, ho, hx.bool_inv, hy.bool_inv, eqGuard_at_bool, binOp, hq]
    · refine .of _ _ hp ?_ .bool
      simp [execOp, ho, hx.bool_inv, hy.bool_inv, eqGuard_at_bool, binOp, hq]
  · exact hp.elim

theorem sees_eqA (he : ER c h w e a.tmps) {neg : Bool} {t yt : TypeId} {x y : Operand} {fs : Array Field} {ks : List EqK} (ho : o.op = .binOp (if neg then .neq else .eql) t x y yt) (hu : P.underlying t = some (.struct fs))
    (hs : P.stoodInHeld t = false) (hg : P.eqGuardType P.depth t = false) (hks : eqKinds2 P 0 fs.toList = some ks)
    (hp : aop P Γ (.eqA neg ks (cOpd x) (cOpd y)) e h k kp) : Sees P c h w a o k := by
  simp only [aop, evK_eq] at hp
  have hx := he.ev x
  have hy := he.ev y
  split at hp
  · rename_i l m h1 h2
    rw [h1] at hx; rw [h2] at hy
    obtain ⟨xs, hxe, hxl, hxc⟩ := hx.agg_inv
    obtain ⟨ys, hye, hyl, hyc⟩ := hy.agg_inv
    split at hp
    · rename_i p hq
      have hfo : P.fieldsOf t = fs := by simp [Program.fieldsOf, hu]
      have hrun := eqCells2_run (P := P) (c := c) (h := h) (w := w) 9997 xs ys fs.toList 0 l m p ks hks (fun i v x hv hx => hxc i v x hv (by simpa using hx)) (fun i v x hv hx => hyc i v x hv (by simpa using hx)) (by omega) (by omega) hq
      have he := run_equalIn_struct (P := P) w 9999 t xs ys (by rw [hfo]; exact hu) hs
      rw [hfo, hrun] at he
      cases neg
      · refine .of _ _ hp ?_ .bool
        simp [execOp, ho, hxe, hye, run_eqGuard_agg w _ t x y xs ys hg, run_eql_struct, he]
      · refine .of _ _ hp ?_ .bool
        simp [execOp, ho, hxe, hye, run_eqGuard_agg w _ t x y xs ys hg, run_neq_struct, he]
    · exact hp.elim
  · exact hp.elim

theorem sees_un (he : ER c h w e a.tmps) {u : UnOp} {t : TypeId} {x : Operand} (ho : o.op = .unOp u t x) (hp : aop P Γ (.un u (cOpd x)) e h k kp) : Sees P c h w a o k := by
  simp only [aop, evK_eq] at hp
  have hx := he.ev x
  split at hp
  · rename_i h1
    rw [h1] at hx
    refine .of _ _ hp ?_ .bool
    simp [execOp, ho, hx.bool_inv, Op.unary]
  · rename_i h1
    rw [h1] at hx
    refine .of _ _ hp ?_ .int
    simp [execOp, ho, hx.int_inv, Op.unary, Op.intArith]
  · rename_i h1
    rw [h1] at hx
    refine .of _ _ hp ?_ .int
    simp [execOp, ho, hx.int_inv, Op.unary, Op.intBits, bitsI]
  · exact hp.elim

theorem sees_conv (he : ER c h w e a.tmps) {s d : TypeId} {x : Operand} {kd ks : IntKind} (ho : o.op = .convert s d x) (hs : P.underlying s = some (.int ks)) (hd : P.underlying d = some (.int kd))
    (hp : aop P Γ (.conv kd (cOpd x)) e h k kp) : Sees P c h w a o k := by
  simp only [aop, evK_eq] at hp
  have hx := he.ev x
  split at hp
  · rename_i h1
    rw [h1] at hx
    refine .of _ _ hp ?_ .int
    simp [execOp, ho, hx.int_inv, convert, run_underlying hs, run_underlying hd, Conv.intToInt]
  · exact hp.elim

theorem sees_strConv (he : ER c h w e a.tmps) {s d : TypeId} {x : Operand} (ho : o.op = .convert s d x) (hs : P.underlying s = some .string) (hd : P.underlying d = some .string)
    (hp : aop P Γ (.strMov (cOpd x)) e h k kp) : Sees P c h w a o k := by
  simp only [aop, evK_eq] at hp
  have hx := he.ev x
  split at hp
  · rename_i h1
    rw [h1] at hx
    refine .of _ _ hp ?_ .str
    simp [execOp, ho, hx.str_inv, convert, run_underlying hs, run_underlying hd]
  · exact hp.elim

theorem evs_rel (he : ER c h w e a.tmps) (xs : Array Operand) (i : Nat) (v : SV) (y : Value) (hv : ((xs.toList.map cOpd).map (AOpd.ev e))[i]? = some v) (hy : (xs.map a.eval)[i]? = some y) : VR c h w v y := by
  simp only [List.map_map, List.getElem?_map, Option.map_eq_some_iff, Array.getElem?_toList] at hv
  obtain ⟨x, hx, rfl⟩ := hv
  rw [Array.getElem?_map, hx] at hy
  cases hy
  exact he.ev x

theorem sees_mkFunc (he : ER c h w e a.tmps) {fn : Fn} {xs ys : Array Operand} (ho : o.op = .makeFunc fn xs ys) (hp : aop P Γ (.mkFunc fn (xs.toList.map cOpd) (ys.toList.map cOpd)) e h k kp) : Sees P c h w a o k := by
  simp only [aop, evsK_eq] at hp
  refine .of _ (.func fn (xs.map a.eval) (ys.map a.eval)) hp (by simp [execOp, ho, Instr.makeFunc]) (.func _ _ _ _ _ (by simp) (by simp) (evs_rel he xs) (evs_rel he ys))

theorem sees_mkIface (he : ER c h w e a.tmps) {t : TypeId} {x : Operand} {d : TypeDesc} (ho : o.op = .makeInterface t x) (hu : P.underlying t = some d) (hd : ∀ ms, d ≠ .interface ms)
    (hp : aop P Γ (.mkIface t (cOpd x)) e h k kp) : Sees P c h w a o k := by
  simp only [aop, evK_eq] at hp
  refine .of _ _ hp ?_ (.iface _ _ _ (he.ev x))
  simp only [execOp, ho, Instr.makeInterface, Sem.run_bind, run_underlying hu, Result.andThen_ok]
  cases d <;> first | exact absurd rfl (hd _) | rfl

theorem liveF_inv {i g : Nat} {p : Prop} (hp : liveF h i g p) : p ∧ ∃ o, h.obj i = some o ∧ o.gen = g := by
  obtain ⟨n, l⟩ := h
  unfold liveF at hp
  simp only [lookO_eq] at hp
  split at hp
  · rename_i ob hob
    split at hp
    · replace hp := asr_iff.1 hp
      exact ⟨hp.2, _, hob, Nat.eq_of_beq_eq_true hp.1⟩
    · replace hp := asr_iff.1 hp
      exact ⟨hp.2, _, hob, Nat.eq_of_beq_eq_true hp.1⟩
    · exact hp.elim
  · exact hp.elim
theorem liveF_det {i g : Nat} {p : Prop} (hp : liveF h i g p) : p ∧ ∀ q : Prop, q → liveF h i g q := by
  obtain ⟨n, l⟩ := h
  unfold liveF at hp ⊢
  simp only [lookO_eq] at hp ⊢
  split at hp
  · rename_i ob hob
    split at hp
    · replace hp := asr_iff.1 hp; exact ⟨hp.2, fun q hq => asr_iff.2 ⟨hp.1, hq⟩⟩
    · replace hp := asr_iff.1 hp; exact ⟨hp.2, fun q hq => asr_iff.2 ⟨hp.1, hq⟩⟩
    · exact hp.elim
  · exact hp.elim
theorem liveK_inv {i g : Nat} {p : Prop} (hp : liveK h i g p) : p ∧ ∃ sz elems sk, h.obj i = some (.vec g sz elems sk) := by
  obtain ⟨n, l⟩ := h
  unfold liveK at hp
  simp only [lookO_eq] at hp
  split at hp
  · rename_i ob hob
    split at hp
    · replace hp := asr_iff.1 hp
      obtain ⟨hg, hp⟩ := hp
      have hg := Nat.eq_of_beq_eq_true hg
      exact ⟨hp, _, _, _, by rw [← hg]; exact hob⟩
    · exact hp.elim
  · exact hp.elim

theorem ref_live {i g idx sub : Nat} {x : Value} (hx : VR c h w (.ref i g idx sub) x) {p : Prop} (hp : liveK h i g p) :
    p ∧ ∃ q, x = .pointer (some ⟨c.β i, q + sub, none⟩) ∧ ∀ sub', VR c h w (.ref i g idx sub') (.pointer (some ⟨c.β i, q + sub', none⟩)) := by
  obtain ⟨hp, sz, elems, sk, hob⟩ := liveK_inv hp
  refine ⟨hp, idx * sz, hx.ref_inv hob rfl, fun sub' => ?_⟩
  cases hx with
  | pure hx => cases hx
  | ref _ _ _ _ _ _ hi hg _ =>
    refine .ref _ _ _ _ _ ⟨_, rfl⟩ hi hg fun o' ho' _ => ?_
    rw [hob] at ho'; cases ho'; rfl

theorem sees_fieldAddr (he : ER c h w e a.tmps) {s : TypeId} {x : Operand} {f : Nat} {fs : Array Field} {fd : Field} {i : TypeInfo} (ho : o.op = .fieldAddr s x f) (hu : P.underlying s = some (.struct fs)) (hf : fs[f]? = some fd)
    (hi : P.info? fd.type = some i) (hz : i.size ≠ 0) (hp : aop P Γ (.fieldAddr fd.offset (cOpd x)) e h k kp) : Sees P c h w a o k := by
  simp only [aop, evK_eq] at hp
  have hx := he.ev x
  have hrun : ∀ b q, a.eval x = .pointer (some ⟨b, q, none⟩) → (execOp a.eval o).run P w = .ok (.value (.pointer (some ⟨b, q + fd.offset, none⟩))) w := by
    intro b q hq
    simp [execOp, ho, hq, Instr.fieldAt, run_underlying hu, hf, Instr.sureAddr, fieldPlace, sizeOf_run hi, hz, add_eq]
  split at hp
  · rename_i h1
    rw [h1] at hx
    obtain ⟨hp, q, hq, hv⟩ := ref_live hx hp
    refine .of _ _ hp (hrun _ _ hq) ?_
    rw [Nat.add_assoc]
    exact hv _
  · rename_i v sub h1
    rw [h1] at hx
    obtain ⟨b, q, C, ty, fz, hq, hb, hw, hn, hc⟩ := hx.ipt_inv
    refine .of _ _ hp (hrun _ _ hq) ?_
    rw [Nat.add_assoc]
    exact .pure (.ipt _ _ _ _ _ _ _ hb hw hn hc)
  · exact hp.elim

theorem sees_field (he : ER c h w e a.tmps) {t : TypeId} {x : Operand} {f : Nat} {fs : Array Field} {fd : Field} (ho : o.op = .field t x f) (hu : P.underlying t = some (.struct fs)) (hf : fs[f]? = some fd) :
    (isAggT P fd.type = some false → aop P Γ (.fieldS fd.offset (cOpd x)) e h k kp → Sees P c h w a o k) ∧
    (∀ i, isAggT P fd.type = some true → P.info? fd.type = some i → aop P Γ (.fieldA fd.offset i.size (cOpd x)) e h k kp → Sees P c h w a o k) := by
  have hx := he.ev x
  refine ⟨fun hag hp => ?_, fun i hag hi hp => ?_⟩
  · simp only [aop, evK_eq] at hp
    split at hp
    · rename_i l h1
      rw [h1] at hx
      obtain ⟨cs, hcs, hl, hc⟩ := hx.agg_inv
      rw [getL_eq] at hp
      split at hp
      · rename_i v hv
        have hlt : fd.offset < l.length := by
          rcases Nat.lt_or_ge fd.offset l.length with h | h
          · exact h
          · rw [List.getElem?_eq_none h] at hv; cases hv
        have hy : cs[fd.offset]? = some cs[fd.offset] := Array.getElem?_eq_getElem (by omega)
        refine .of v cs[fd.offset] hp ?_ (hc _ v _ hv hy)
        simp [execOp, ho, hcs, Instr.field, run_underlying hu, hf, asAgg, part, isAgg_run hag, hy]
      · exact hp.elim
    · exact hp.elim
  · simp only [aop, evK_eq] at hp
    split at hp
    · rename_i l h1
      rw [h1] at hx
      obtain ⟨cs, hcs, hl, hc⟩ := hx.agg_inv
      obtain ⟨h2, hp⟩ := dropN_iff.1 hp
      obtain ⟨h3, hp⟩ := takeN_iff.1 hp
      simp only [List.length_drop] at h3
      refine .of _ (.agg (cs.extract fd.offset (fd.offset + i.size))) hp ?_ (.agg _ _ ?_ fun j v y hv hy => ?_)
      · simp [execOp, ho, hcs, Instr.field, run_underlying hu, hf, asAgg, part, isAgg_run hag, sizeOf_run hi]
      · simp; omega
      · simp only [List.getElem?_take, List.getElem?_drop] at hv
        split at hv
        · rename_i hj
          rw [Array.getElem?_extract] at hy
          split at hy
          · exact hc (fd.offset + j) v y hv hy
          · cases hy
        · cases hv
    · exact hp.elim

theorem sees_index (he : ER c h w e a.tmps) {t : TypeId} {x i : Operand} (ho : o.op = .index t x i) (hu : P.underlying t = some .string) (hp : aop P Γ (.index (cOpd x) (cOpd i)) e h k kp) : Sees P c h w a o k := by
  simp only [aop, evK_eq] at hp
  have hx := he.ev x
  have hi := he.ev i
  split at hp
  · rename_i s kk j h1 h2
    rw [h1] at hx; rw [h2] at hi
    replace hp := asr_iff.1 hp
    obtain ⟨hb, hp⟩ := hp
    simp only [Bool.and_eq_true, decide_eq_true_eq] at hb
    refine .of _ _ hp ?_ .int
    have hlt : j.toNat < s.length := by omega
    have hget : (ByteArray.mk s.toArray)[j.toNat]? = some s[j.toNat] := by
      have : j.toNat < (ByteArray.mk s.toArray).size := by simpa [ByteArray.size] using hlt
      rw [getElem?_pos (ByteArray.mk s.toArray) j.toNat this]
      rfl
    simp [execOp, ho, hx.str_inv, hi.int_inv, Instr.index, run_underlying hu, asIntOf, hb.1, hget, hlt]
  · exact hp.elim

theorem sees_extract (he : ER c h w e a.tmps) {x : Operand} {i : Nat} (ho : o.op = .extract x i) (hp : aop P Γ (.extract (cOpd x) i) e h k kp) : Sees P c h w a o k := by
  simp only [aop, evK_eq] at hp
  have hx := he.ev x
  split at hp
  · rename_i l h1
    rw [h1] at hx
    obtain ⟨cs, hcs, hl, hc⟩ := hx.tup_inv
    rw [getL_eq] at hp
    split at hp
    · rename_i v hv
      have hlt : i < l.length := by
        rcases Nat.lt_or_ge i l.length with h | h
        · exact h
        · rw [List.getElem?_eq_none h] at hv; cases hv
      have hy : cs[i]? = some cs[i] := Array.getElem?_eq_getElem (by omega)
      refine .of v cs[i] hp ?_ (hc _ v _ hv hy)
      simp [execOp, ho, hcs, Instr.extract, hy]
    · exact hp.elim
  · exact hp.elim
end
end Ab
namespace Ab
set_option linter.unusedVariables false
set_option linter.unusedSimpArgs false
open Go
section
variable {P : Program} {Γ : CallR} {c : Cx} {h : Heap} {w : World} {e : Env} {a : Act} {o : Oper} {k kp : SV → Heap → Prop}

theorem oevK_inv (he : ER c h w e a.tmps) {d : Int} {x : Option Operand} {K : Int → Prop} (hp : oevK e d (x.map cOpd) K) :
    (x = none ∧ K d) ∨ ∃ y kk n, x = some y ∧ a.eval y = .int kk n ∧ K n := by
  cases x with
  | none => exact .inl ⟨rfl, hp⟩
  | some y =>
    simp only [Option.map_some, oevK, evK_eq] at hp
    have hy := he.ev y
    split at hp
    · rename_i kk n h1
      rw [h1] at hy
      exact .inr ⟨y, kk, n, rfl, hy.int_inv, hp⟩
    · exact hp.elim

theorem bound_run {kk : IntKind} {i : Int} {y : Nat} (code : BoundsCode) (h0 : 0 ≤ i) (h1 : i ≤ y) : (Instr.sliceBound (.int kk i) y code).run P w = .ok i.toNat w := by
  simp [Instr.sliceBound, asIntOf, h0, h1]

theorem bounds_run (he : ER c h w e a.tmps) (b : Bool) (len cap : Nat) {lo hi : Option Operand} {K : Int → Int → Prop} (hp : oevK e 0 (lo.map cOpd) fun l => oevK e len (hi.map cOpd) fun hh => K l hh) :
    ∃ l hh, K l hh ∧ (0 ≤ l → l ≤ hh → hh ≤ cap → (Instr.sliceBounds b len cap (lo.map a.eval) (hi.map a.eval) none).run P w = .ok (l.toNat, hh.toNat, cap) w) := by
  rcases oevK_inv he hp with ⟨rfl, hp1⟩ | ⟨y, kk, n, rfl, hy, hp1⟩
  · rcases oevK_inv he hp1 with ⟨rfl, hp2⟩ | ⟨y, kk, n, rfl, hy, hp2⟩
    · exact ⟨_, _, hp2, fun h0 h1 h2 => by simp [Instr.sliceBounds]⟩
    · exact ⟨_, _, hp2, fun h0 h1 h2 => by simp [Instr.sliceBounds, hy, bound_run _ h1 h2]⟩
  · rcases oevK_inv he hp1 with ⟨rfl, hp2⟩ | ⟨y2, kk2, n2, rfl, hy2, hp2⟩
    · exact ⟨_, _, hp2, fun h0 h1 h2 => by simp [Instr.sliceBounds, hy, bound_run _ h0 h1]⟩
    · refine ⟨_, _, hp2, fun h0 h1 h2 => ?_⟩
      simp [Instr.sliceBounds, hy, hy2, bound_run _ (Int.le_trans h0 h1) h2]
      exact (congrArg (fun r => Result.andThen r _) (bound_run (P := P) (w := w) .sliceB h0 (by omega))).trans (by simp)

theorem sees_sliceStr (he : ER c h w e a.tmps) {t : TypeId} {x : Operand} {lo hi : Option Operand} (ho : o.op = .slice t x lo hi none) (hu : P.underlying t = some .string)
    (hp : aop P Γ (.sliceStr (cOpd x) (lo.map cOpd) (hi.map cOpd)) e h k kp) : Sees P c h w a o k := by
  simp only [aop, evK_eq] at hp
  have hx := he.ev x
  split at hp
  · rename_i s h1
    rw [h1] at hx
    obtain ⟨l, hh, hp, hrun⟩ := bounds_run (P := P) (w := w) he false s.length s.length hp
    replace hp := asr_iff.1 hp
    obtain ⟨hb, hp⟩ := hp
    simp only [Bool.and_eq_true, decide_eq_true_eq] at hb
    obtain ⟨⟨h0, h1⟩, h2⟩ := hb
    refine .of _ _ hp ?_ .str
    have hsz : (ByteArray.mk s.toArray).size = s.length := by simp [ByteArray.size]
    have hex : (ByteArray.mk s.toArray).extract l.toNat hh.toNat = ByteArray.mk ((s.drop l.toNat).take (hh.toNat - l.toNat)).toArray := by
      apply ByteArray.ext
      apply Array.ext'
      simp [ByteArray.data_extract, List.extract_eq_take_drop]
    simp [execOp, ho, hx.str_inv, Instr.sliceAt, run_underlying hu, Instr.slice, hsz, hrun h0 h1 h2, hex]
  · exact hp.elim

theorem sees_slice (he : ER c h w e a.tmps) {t el : TypeId} {x : Operand} {lo hi : Option Operand} {i : TypeInfo} (ho : o.op = .slice t x lo hi none) (hu : P.underlying t = some (.slice el)) (hi' : P.info? el = some i)
    (hp : aop P Γ (.slice i.size (cOpd x) (lo.map cOpd) (hi.map cOpd)) e h k kp) : Sees P c h w a o k := by
  simp only [aop, evK_eq] at hp
  have hx := he.ev x
  have hrun : ∀ (ad : Option Addr) (len cap l hh : Nat), a.eval x = .slice ad len cap → (Instr.sliceBounds true len cap (lo.map a.eval) (hi.map a.eval) none).run P w = .ok (l, hh, cap) w →
      (execOp a.eval o).run P w = .ok (.value (.slice (if cap = l then ad else ad.map (·.add (l * i.size))) (hh - l) (cap - l))) w := by
    intro ad len cap l hh hx hr
    simp [execOp, ho, hx, Instr.sliceAt, run_underlying hu, Instr.slice, hr, sizeOf_run hi']
  split at hp
  · rename_i sz n get h1
    rw [h1] at hx
    replace hp := asr_iff.1 hp
    obtain ⟨hsz, hp⟩ := hp
    have hsz := Nat.eq_of_beq_eq_true hsz
    obtain ⟨ad, cap, hxe, hnc, hor⟩ := hx.lst_inv
    obtain ⟨l, hh, hp, hbr⟩ := bounds_run (P := P) (w := w) he true n cap hp
    replace hp := asr_iff.1 hp
    obtain ⟨hb, hp⟩ := hp
    simp only [Bool.and_eq_true, decide_eq_true_eq] at hb
    obtain ⟨⟨h0, h1⟩, h2⟩ := hb
    refine .of _ _ hp (hrun _ _ _ _ _ hxe (hbr h0 h1 (by omega))) ?_
    by_cases hz : hh.toNat - l.toNat = 0
    · rw [hz]
      exact .pure (.lst0 _ _ _ _)
    · rcases hor with rfl | ⟨b, off, C, ty, fz, rfl, hb, hw, hn, hc, hcell⟩
      · omega
      · rw [if_neg (by omega)]
        simp only [Option.map_some, add_eq]
        refine .pure (.lst sz _ _ b (off + l.toNat * i.size) _ C ty fz hb hw ?_ (by omega) (fun j hj => hc _ (by omega)) fun j j' v y hj hv hy => hcell (l.toNat + j) j' v y (by omega) hv ?_)
        · have e1 : (l.toNat + (hh.toNat - l.toNat)) * sz ≤ n * sz := Nat.mul_le_mul_right _ (by omega)
          rw [Nat.add_mul] at e1
          rw [← hsz]
          omega
        · rw [← hy, ← hsz, Nat.add_mul]
          congr 1
          omega
  · rename_i ii g sz off len cap hev
    rw [hev] at hx
    clear hev
    replace hp := asr_iff.1 hp
    obtain ⟨hsz, hp⟩ := hp
    have hsz := Nat.eq_of_beq_eq_true hsz
    obtain ⟨hp, sz', elems, sk, hob⟩ := liveK_inv hp
    obtain ⟨hsz', ad, cc, hxe, hlc, hcap, hor⟩ := hx.sl_inv hob rfl
    obtain ⟨l, hh, hp, hbr⟩ := bounds_run (P := P) (w := w) he true len cc hp
    replace hp := asr_iff.1 hp
    obtain ⟨hb, hp⟩ := hp
    simp only [Bool.and_eq_true, decide_eq_true_eq] at hb
    obtain ⟨h0, h1⟩ := hb
    have hfull : cap = none → l.toNat ≤ cc → ∃ ty n, w.shape? (c.β ii) = some (ty, n) ∧ (off + l.toNat) * sz + (cc - l.toNat) * sz = n := fun hcn hlc2 => by
      subst hcn
      obtain ⟨ty, n, h1, h2⟩ := hx.sl_full hob rfl hxe
      refine ⟨ty, n, h1, ?_⟩
      rw [← h2, ← Nat.add_mul, ← Nat.add_mul]
      congr 1
      omega
    have hmk : ∀ cap', (cap' = none → cap = none) → hh.toNat ≤ cc → (∀ k, cap' = some k → cc - l.toNat = k) → VR c h w (.sl ii g sz (off + l.toNat) (hh.toNat - l.toNat) cap') (.slice (if cc = l.toNat then some ad else (some ad).map (·.add (l.toNat * i.size))) (hh.toNat - l.toNat) (cc - l.toNat)) := by
      intro cap' hcn hle hk
      cases hx with
      | pure hx => cases hx
      | sl _ _ _ _ _ _ _ _ hi hg _ =>
      refine .sl _ _ _ _ _ _ _ ⟨_, _, _, rfl⟩ hi hg fun o' ho' hgo => ?_
      rw [hob] at ho'; cases ho'
      by_cases hz : cc = l.toNat
      · rw [if_pos hz]
        exact ⟨hsz', ad, _, rfl, by omega, hk, .inl (by omega), fun h => hfull (hcn h) (by omega)⟩
      · rw [if_neg hz]
        simp only [Option.map_some]
        refine ⟨hsz', _, _, rfl, by omega, hk, .inr ?_, fun h => hfull (hcn h) (by omega)⟩
        rcases hor with h0 | ⟨rfl, ty, n, hsh, hle'⟩
        · omega
        · refine ⟨by rw [add_eq, Nat.add_mul, hsz], ty, n, hsh, ?_⟩
          have e1 : (off + l.toNat) * sz + (cc - l.toNat) * sz = off * sz + cc * sz := by
            rw [← Nat.add_mul, ← Nat.add_mul]
            congr 1
            omega
          omega
    cases cap with
    | some cp =>
      replace hp := asr_iff.1 hp
      obtain ⟨hb2, hp⟩ := hp
      simp only [decide_eq_true_eq] at hb2
      have hcp := hcap cp rfl
      refine .of _ _ hp (hrun _ _ _ _ _ hxe (hbr h0 h1 (by omega))) (hmk _ (fun h => by cases h) (by omega) fun k hk => by cases hk; omega)
    | none =>
      replace hp := asr_iff.1 hp
      obtain ⟨hb2, hp⟩ := hp
      simp only [decide_eq_true_eq] at hb2
      refine .of _ _ hp (hrun _ _ _ _ _ hxe (hbr h0 h1 (by omega))) (hmk _ (fun _ => rfl) (by omega) fun k hk => by cases hk)
  · rename_i h1
    rw [h1] at hx
    obtain ⟨l, hh, hp, hbr⟩ := bounds_run (P := P) (w := w) he true 0 0 hp
    replace hp := asr_iff.1 hp
    obtain ⟨hb, hp⟩ := hp
    simp only [Bool.and_eq_true, decide_eq_true_eq] at hb
    obtain ⟨h0, h1⟩ := hb
    subst h0; subst h1
    refine .of _ _ hp (hrun _ _ _ _ _ hx.nils_inv (hbr (by omega) (by omega) (by omega))) ?_
    exact .pure .nils
  · exact hp.elim

theorem sees_indexAddr (he : ER c h w e a.tmps) {t el : TypeId} {x i : Operand} {ti : TypeInfo} (ho : o.op = .indexAddr t x i) (hu : P.underlying t = some (.slice el)) (hti : P.info? el = some ti)
    (hp : aop P Γ (.indexAddr ti.size (cOpd x) (cOpd i)) e h k kp) : Sees P c h w a o k := by
  simp only [aop, evK_eq] at hp
  have hx := he.ev x
  have hi := he.ev i
  have hrun : ∀ b off len cap kk (j : Int), a.eval x = .slice (some ⟨b, off, none⟩) len cap → a.eval i = .int kk j → 0 ≤ j → j < len →
      (execOp a.eval o).run P w = .ok (.value (.pointer (some ⟨b, off + j.toNat * ti.size, none⟩))) w := by
    intro b off len cap kk j hx hi h0 h1
    simp [execOp, ho, hx, hi, Instr.indexAt, asIntOf, run_underlying hu, h0, h1, sizeOf_run hti, add_eq]
  split at hp
  · rename_i sz n get kk j h1 h2
    rw [h1] at hx; rw [h2] at hi
    replace hp := asr_iff.1 hp
    obtain ⟨hsz, hp⟩ := hp
    have hsz := Nat.eq_of_beq_eq_true hsz
    replace hp := asr_iff.1 hp
    obtain ⟨hb, hp⟩ := hp
    simp only [Bool.and_eq_true, decide_eq_true_eq] at hb
    obtain ⟨ad, cap, hxe, hnc, hor⟩ := hx.lst_inv
    rcases hor with rfl | ⟨b, off, C, ty, fz, rfl, hbI, hw, hn, hc, hcell⟩
    · omega
    · refine .of _ _ hp (hrun _ _ _ _ _ _ hxe hi.int_inv hb.1 hb.2) ?_
      have hj : j.toNat < n := by omega
      have := VP.ipt (w := w) (get j.toNat) 0 b (off + j.toNat * sz) C ty fz hbI hw (by
        rw [hc _ hj]
        have e1 : (j.toNat + 1) * sz ≤ n * sz := Nat.mul_le_mul_right _ hj
        rw [Nat.succ_mul] at e1
        omega) fun j' u y hu hy => hcell j.toNat j' u y hj hu hy
      rw [← hsz]
      exact .pure this
  · rename_i ii g sz off len cap kk j h1 h2
    rw [h1] at hx; rw [h2] at hi
    replace hp := asr_iff.1 hp
    obtain ⟨hsz, hp⟩ := hp
    have hsz := Nat.eq_of_beq_eq_true hsz
    obtain ⟨hp, sz', elems, sk, hob⟩ := liveK_inv hp
    replace hp := asr_iff.1 hp
    obtain ⟨hb, hp⟩ := hp
    simp only [Bool.and_eq_true, decide_eq_true_eq] at hb
    obtain ⟨hsz', ad, cc, hxe, hlc, hcap, hor⟩ := hx.sl_inv hob rfl
    rcases hor with h0 | ⟨rfl, ty, n, hsh, hle⟩
    · omega
    · refine .of _ _ hp (hrun _ _ _ _ _ _ hxe hi.int_inv hb.1 hb.2) ?_
      cases hx with
      | pure hx => cases hx
      | sl _ _ _ _ _ _ _ _ hii hg _ =>
      refine .ref _ _ _ _ _ ⟨_, rfl⟩ hii hg fun o' ho' hgo => ?_
      rw [hob] at ho'; cases ho'
      simp only [AObj.sz] at hsz' ⊢
      rw [hsz', ← hsz, Nat.add_mul]
      rfl
  · exact hp.elim

theorem sees_indexArr (hr : Rep c h w) (he : ER c h w e a.tmps) {t el : TypeId} {n : Nat} {x i : Operand} {ti : TypeInfo} (ho : o.op = .indexAddr t x i) (hu : P.underlying t = some (.array n el)) (hti : P.info? el = some ti)
    (hp : aop P Γ (.indexArr n ti.size (cOpd x) (cOpd i)) e h k kp) : Sees P c h w a o k := by
  simp only [aop, evK_eq] at hp
  have hx := he.ev x
  have hi := he.ev i
  have hrun : ∀ b off kk (j : Int), a.eval x = .pointer (some ⟨b, off, none⟩) → a.eval i = .int kk j → 0 ≤ j → j < n →
      (execOp a.eval o).run P w = .ok (.value (.pointer (some ⟨b, off + j.toNat * ti.size, none⟩))) w := by
    intro b off kk j hx hi h0 h1
    simp [execOp, ho, hx, hi, Instr.indexAt, asIntOf, Instr.sureAddr, run_underlying hu, h0, h1, sizeOf_run hti, add_eq]
  split at hp
  · rename_i ii g idx sub _ jj h1 h2
    rw [h1] at hx; rw [h2] at hi
    replace hp := asr_iff.1 hp
    obtain ⟨hb, hp⟩ := hp
    simp only [Bool.and_eq_true, decide_eq_true_eq] at hb
    obtain ⟨m, hl⟩ := h
    simp only [idxK, lookO_eq] at hp
    split at hp
    · rename_i ob hob
      split at hp
      · rename_i g' sz' elems sk
        replace hp := asr_iff.1 hp
        obtain ⟨hg, hp⟩ := hp
        have hg := Nat.eq_of_beq_eq_true hg
        subst hg
        have hq := hx.ref_inv (o := .vec g' sz' elems sk) hob rfl
        simp only [AObj.sz] at hq
        have hii : ii < m := by
          cases hx with
          | pure hx => cases hx
          | ref _ _ _ _ _ _ hii _ _ => exact hii
        have hgg : ∀ o, (Heap.mk m hl).obj ii = some o → g' ≤ o.gen := by
          cases hx with
          | pure hx => cases hx
          | ref _ _ _ _ _ _ _ hgg _ => exact hgg
        rcases brE hp with ⟨hs, hp⟩ | ⟨hs, hp⟩
        · have hs := Nat.eq_of_beq_eq_true hs
          refine .of _ _ hp (hrun _ _ _ _ hq hi.int_inv hb.1 hb.2) ?_
          refine .ref _ _ _ _ _ ⟨_, rfl⟩ hii hgg fun o' ho' _ => ?_
          have e : (Heap.mk m hl).obj ii = some (.vec g' sz' elems sk) := hob
          rw [e] at ho'; cases ho'
          simp only [AObj.sz]
          rw [hs, Nat.add_mul, Nat.add_right_comm]
        · refine .of _ _ hp (hrun _ _ _ _ hq hi.int_inv hb.1 hb.2) ?_
          refine .ref _ _ _ _ _ ⟨_, rfl⟩ hii hgg fun o' ho' _ => ?_
          have e : (Heap.mk m hl).obj ii = some (.vec g' sz' elems sk) := hob
          rw [e] at ho'; cases ho'
          simp only [AObj.sz]
          rw [Nat.add_assoc]
      · exact hp.elim
    · exact hp.elim
  · rename_i g _ jj h1 h2
    rw [h1] at hx; rw [h2] at hi
    replace hp := asr_iff.1 hp
    obtain ⟨hb, hp⟩ := hp
    simp only [Bool.and_eq_true, decide_eq_true_eq] at hb
    split at hp
    · rename_i v hv
      obtain ⟨hI, C, ty, fz, hw, hn, hc⟩ := hr.glob.1 g v hv
      refine .of _ _ hp (hrun _ _ _ _ hx.glob_inv hi.int_inv hb.1 hb.2) ?_
      have := VP.ipt (Im := c.Im) (w := w) v (0 + jj.toNat * ti.size) g 0 C ty fz hI hw (by omega) (fun j u x hu hx => hc j u x hu (by rw [Nat.zero_add] at hx; exact hx))
      simp only [Nat.zero_add] at this ⊢
      exact .pure this
    · exact hp.elim
  · rename_i h1 h2
    rw [h1] at hx; rw [h2] at hi
    replace hp := asr_iff.1 hp
    obtain ⟨hb, hp⟩ := hp
    simp only [Bool.and_eq_true, decide_eq_true_eq] at hb
    obtain ⟨b, q, C, ty, fz, hq, hbI, hw, hn, hc⟩ := hx.ipt_inv
    refine .of _ _ hp (hrun _ _ _ _ hq hi.int_inv hb.1 hb.2) ?_
    rw [Nat.add_assoc]
    exact .pure (.ipt _ _ _ _ _ _ _ hbI hw hn hc)
  · exact hp.elim

theorem sees_len (he : ER c h w e a.tmps) {cl : Call} {x : Operand} {t : TypeId} {b : Bool} (ho : o.op = .call cl) (hcl : cl.callee = .builtin .len) (hargs : cl.args.toList = [x]) (htys : cl.argTypes.toList = [t])
    (hu : match b with | true => P.underlying t = some .string | false => ∃ el, P.underlying t = some (.slice el))
    (hp : aop P Γ (.len b (cOpd x)) e h k kp) : Sees P c h w a o k := by
  simp only [aop, evK_eq] at hp
  have hx := he.ev x
  have hargs' : cl.args = #[x] := by simpa using congrArg List.toArray hargs
  have htys' : cl.argTypes = #[t] := by simpa using congrArg List.toArray htys
  have hl : b = false → ∀ ad n m, a.eval x = .slice ad n m → (execOp a.eval o).run P w = .ok (.value (.int .i64 n)) w := by
    intro hb ad n m hs
    subst hb
    obtain ⟨el, hel⟩ := hu
    simp [execOp, ho, resolve, hcl, hargs', htys', invoke, builtin, Builtin.len_, run_underlying hel, hs, goInt]
  split at hp
  · rename_i s h1
    rw [h1] at hx
    refine .of _ _ hp ?_ .int
    have hsz : (ByteArray.mk s.toArray).size = s.length := by simp [ByteArray.size]
    simp [execOp, ho, resolve, hcl, hargs', htys', invoke, builtin, Builtin.len_, run_underlying hu, hx.str_inv, goInt, hsz]
  · rename_i h1
    rw [h1] at hx
    obtain ⟨ad, cap, hxe, _, _⟩ := hx.lst_inv
    exact .of _ _ hp (hl rfl _ _ _ hxe) .int
  · rename_i h1
    rw [h1] at hx
    obtain ⟨hp, ob, hob, hg⟩ := liveF_inv hp
    obtain ⟨_, ad, cc, hxe, _⟩ := hx.sl_inv hob hg
    exact .of _ _ hp (hl rfl _ _ _ hxe) .int
  · rename_i h1
    rw [h1] at hx
    exact .of _ _ hp (hl rfl _ _ _ hx.nils_inv) .int
  · exact hp.elim

theorem sees_mm (he : ER c h w e a.tmps) {cl : Call} {x y : Operand} {m : Bool} (ho : o.op = .call cl) (hcl : cl.callee = .builtin (if m then .max else .min)) (hargs : cl.args.toList = [x, y])
    (hp : aop P Γ (.mm m (cOpd x) (cOpd y)) e h k kp) : Sees P c h w a o k := by
  simp only [aop, evK_eq] at hp
  have hx := he.ev x
  have hy := he.ev y
  have hargs' : cl.args = #[x, y] := by simpa using congrArg List.toArray hargs
  split at hp
  · rename_i kk p k' q h1 h2
    rw [h1] at hx; rw [h2] at hy
    cases m
    · refine .of _ _ hp ?_ .int
      simp [execOp, ho, resolve, hcl, hargs', invoke, builtin, Builtin.min_, Builtin.min2, hx.int_inv, hy.int_inv]
    · refine .of _ _ hp ?_ .int
      simp [execOp, ho, resolve, hcl, hargs', invoke, builtin, Builtin.max_, Builtin.max2, hx.int_inv, hy.int_inv]
  · exact hp.elim
end
end Ab
namespace Ab
set_option linter.unusedVariables false
set_option linter.unusedSimpArgs false
open Go
section
variable {P : Program} {Γ : CallR} {c : Cx} {h : Heap} {w : World} {e : Env} {a : Act} {o : Oper} {k kp : SV → Heap → Prop}

theorem OR.mono {c' : Cx} {h' : Heap} {w' : World} (hr : Rep c h w) (hx : Ext c h w c' h' w') {b : Nat} {ob : AObj} (hb : w'.heap[b]? = w.heap[b]?) (ho : OR c h w b ob) : OR c' h' w' b ob := by
  cases ho with
  | vec g sz elems slack C ty fz hw hle heq hty hc hf hcell => exact .vec g sz elems slack C ty fz (hb.trans hw) hle heq hty hc hf fun i j e v x h1 h2 h3 => (hcell i j e v x h1 h2 h3).mono hr hx
  | iter s pos hw => exact .iter s pos (hb.trans hw)
  | map es cl hw hs => exact .map es cl (hb.trans hw) hs
  | miter m since seen stepped r hw hm => exact .miter m since seen stepped r (hb.trans hw) (hm.mono hr hx)
  | fro g ty xs C fz hw hle hc => exact .fro g ty xs C fz (hb.trans hw) hle hc

def Cx.push (c : Cx) (n b : Nat) : Cx := ⟨fun i => if i = n then b else c.β i, c.Im⟩

theorem obj_push (n : Nat) (l : List (Nat × AObj)) (ob : AObj) (i : Nat) : (Heap.mk (n + 1) ((n, ob) :: l)).obj i = if n = i then some ob else objL l i := rfl

theorem heap_push (w : World) (ob : Obj) (b : Nat) (hb : b < w.heap.size) : (w.alloc ob).heap[b]? = w.heap[b]? := by
  show (w.heap.push ob)[b]? = _
  rw [Array.getElem?_push, if_neg (by omega)]
theorem heap_new (w : World) (ob : Obj) : (w.alloc ob).heap[w.heap.size]? = some ob := by
  show (w.heap.push ob)[w.heap.size]? = _
  simp
theorem heap_size (w : World) (ob : Obj) : (w.alloc ob).heap.size = w.heap.size + 1 := by
  show (w.heap.push ob).size = _
  simp

theorem ext_push {n : Nat} {l : List (Nat × AObj)} (hr : Rep c ⟨n, l⟩ w) (ob : AObj) (cb : Obj) : Ext c ⟨n, l⟩ w (c.push n w.heap.size) ⟨n + 1, (n, ob) :: l⟩ (w.alloc cb) where
  os := rfl
  tape := rfl
  output := rfl
  size := by rw [heap_size]; omega
  frame b hb _ := heap_push w cb b hb
  shape b hb := by simp only [World.shape?, heap_push w cb b hb]
  im _ hb := hb
  im' _ hb := .inl hb
  nxt := Nat.le_succ _
  old i o' hi ho' := by
    simp only at hi
    rw [obj_push, if_neg (by omega)] at ho'
    exact ⟨o', ho', Nat.le_refl _, rfl, fun _ => by simp [Cx.push]; omega⟩
  new i o' ho' := by
    rw [obj_push] at ho'
    by_cases hi : n = i
    · subst hi; left; simp [Cx.push]
    · rw [if_neg hi] at ho'
      exact .inr ⟨o', ho', by simp [Cx.push]; omega⟩

theorem rep_push {n : Nat} {l : List (Nat × AObj)} (hr : Rep c ⟨n, l⟩ w) (ob : AObj) (cb : Obj) (ho : OR (c.push n w.heap.size) ⟨n + 1, (n, ob) :: l⟩ (w.alloc cb) w.heap.size ob) : Rep (c.push n w.heap.size) ⟨n + 1, (n, ob) :: l⟩ (w.alloc cb) := by
  have hx := ext_push hr ob cb
  have hlt : ∀ i o, objL l i = some o → i < n := fun i o ho => hr.lt i o ho
  refine ⟨fun i o' ho' => ?_, fun i o' ho' => ?_, fun i j o' p' ho' hp' he => ?_, fun i o' ho' => ?_, fun b hb => ?_, hr.globx hx⟩
  · rw [obj_push] at ho'
    by_cases hi : n = i
    · subst hi; exact Nat.lt_succ_self _
    · rw [if_neg hi] at ho'; exact Nat.lt_succ_of_lt (hlt i o' ho')
  · rw [obj_push] at ho'
    by_cases hi : n = i
    · subst hi
      rw [if_pos rfl] at ho'; cases ho'
      simpa [Cx.push] using ho
    · rw [if_neg hi] at ho'
      have hor := hr.obj i o' ho'
      have hβ : (c.push n w.heap.size).β i = c.β i := by simp [Cx.push]; omega
      rw [hβ]
      exact hor.mono hr hx (heap_push w cb _ hor.lt)
  · rw [obj_push] at ho' hp'
    simp only [Cx.push] at he
    by_cases hi : n = i
    · by_cases hj : n = j
      · omega
      · rw [if_neg hj] at hp'
        rw [if_pos hi.symm, if_neg (fun e => hj e.symm)] at he
        have := (hr.obj j p' hp').lt
        omega
    · rw [if_neg hi] at ho'
      by_cases hj : n = j
      · rw [if_neg (fun e => hi e.symm), if_pos hj.symm] at he
        have := (hr.obj i o' ho').lt
        omega
      · rw [if_neg hj] at hp'
        rw [if_neg (fun e => hi e.symm), if_neg (fun e => hj e.symm)] at he
        exact hr.inj i j o' p' ho' hp' he
  · rw [obj_push] at ho'
    by_cases hi : n = i
    · subst hi
      simp only [Cx.push, if_pos]
      intro hb
      have := hr.im _ hb
      omega
    · rw [if_neg hi] at ho'
      simp only [Cx.push, if_neg (fun e => hi (Eq.symm e))]
      exact hr.apart i o' ho'
  · rw [heap_size]
    have := hr.im b hb
    omega

/-- The operation comes to this value, and memory to this. -/
def Does (P : Program) (c : Cx) (h : Heap) (w : World) (a : Act) (o : Oper) (k : SV → Heap → Prop) : Prop :=
  ∃ v x h' c' w', k v h' ∧ ((execOp a.eval o).run P w = .ok (.value x) w' ∨ ((execOp a.eval o).run P w = .ok .skip w' ∧ x = undef)) ∧ Rep c' h' w' ∧ Ext c h w c' h' w' ∧ VR c' h' w' v x

theorem Sees.does (hr : Rep c h w) (hs : Sees P c h w a o k) : Does P c h w a o k := by
  obtain ⟨v, x, hk, hrun, hv⟩ := hs
  exact ⟨v, x, h, c, w, hk, .inl hrun, hr, .refl, hv⟩

/-- A new row of cells, made and named. -/
theorem push_vec {n : Nat} {l : List (Nat × AObj)} (hr : Rep c ⟨n, l⟩ w) (sz : Nat) (elems : List SV) (C : Array Value) (ty : TypeId) (heq : elems.length * sz = C.size) (hc : ∀ v ∈ elems, v.cells.length = sz)
    (hcell : ∀ (i j : Nat) (e v : SV) (x : Value), elems[i]? = some e → e.cells[j]? = some v → C[i * sz + j]? = some x → VR c ⟨n, l⟩ w v x) :
    Rep (c.push n w.heap.size) ⟨n + 1, (n, .vec 0 sz elems ⟨false, some ty⟩) :: l⟩ (w.alloc (.cells C ty)) :=
  rep_push hr _ _ (.vec 0 sz elems ⟨false, some ty⟩ C ty (0, 0) (heap_new _ _) (by omega) (fun _ => heq) (fun _ h => (Option.some.inj h).symm) hc (by simp) fun i j e v x h1 h2 h3 => (hcell i j e v x h1 h2 h3).mono hr (ext_push hr _ _))

theorem ref_new {n : Nat} {l : List (Nat × AObj)} {sz : Nat} {elems : List SV} {sk : Sk} {w' : World} {b : Nat} : VR (c.push n b) ⟨n + 1, (n, .vec 0 sz elems sk) :: l⟩ w' (.ref n 0 0 0) (.pointer (some ⟨b, 0, none⟩)) :=
  .ref _ _ _ _ _ ⟨_, rfl⟩ (Nat.lt_succ_self _) (fun _ _ => Nat.zero_le _) fun o' ho' _ => by simp [Cx.push]
theorem sl_new {n : Nat} {l : List (Nat × AObj)} {sz len cap : Nat} {elems : List SV} {sk : Sk} {w' : World} {b : Nat} {C : Array Value} {ty : TypeId} {fz : Nat × Nat} (hb : w'.heap[b]? = some (.cells C ty fz)) (hlc : len ≤ cap) (hC : cap * sz ≤ C.size) :
    VR (c.push n b) ⟨n + 1, (n, .vec 0 sz elems sk) :: l⟩ w' (.sl n 0 sz 0 len (some cap)) (.slice (some ⟨b, 0, none⟩) len cap) :=
  .sl _ _ _ _ _ _ _ ⟨_, _, _, rfl⟩ (Nat.lt_succ_self _) (fun _ _ => Nat.zero_le _) fun o' ho' _ => by
    rw [obj_push, if_pos rfl] at ho'; cases ho'
    refine ⟨rfl, _, _, rfl, hlc, fun k hk => (Option.some.inj hk), .inr ⟨by simp [Cx.push], ty, C.size, by simp [Cx.push, World.shape?, hb], by omega⟩, fun h => by cases h⟩

theorem vcells {v : SV} {x : Value} (hv : VR c h w v x) (hu : v ≠ .undef) : x.cells.size = v.cells.length ∧ ∀ (j : Nat) (u : SV) (y : Value), v.cells[j]? = some u → x.cells[j]? = some y → VR c h w u y := by
  by_cases hagg : ∃ l, v = .agg l
  · obtain ⟨l, rfl⟩ := hagg
    obtain ⟨cs, rfl, hl, hc⟩ := hv.agg_inv
    exact ⟨hl, hc⟩
  · have h1 : v.cells = [v] := by cases v <;> first | rfl | exact absurd ⟨_, rfl⟩ hagg
    rw [h1, hv.noAgg hu (fun l hl => hagg ⟨l, hl⟩)]
    refine ⟨rfl, fun j u y hu hy => ?_⟩
    cases j with
    | zero => simp at hu hy; subst hu; subst hy; exact hv
    | succ j => simp at hu

theorem does_boxed (hr : Rep c h w) {v : SV} {x : Value} {sz : Nat} {t : TypeId} (hv : VR c h w v x) (hrun : (execOp a.eval o).run P w = .ok (.value (.pointer (some ⟨w.heap.size, 0, none⟩))) (w.alloc (.cells x.cells t)))
    (hp : v.cellsK fun vs => asr (Nat.beq vs.length sz) (match h with | ⟨n, l⟩ => k (.ref n 0 0 0) ⟨n + 1, (n, .vec 0 sz [v] ⟨false, some t⟩) :: l⟩)) : Does P c h w a o k := by
  obtain ⟨hu, hp⟩ := cellsK_iff.1 hp
  replace hp := asr_iff.1 hp
  obtain ⟨hsz, hp⟩ := hp
  have hsz := Nat.eq_of_beq_eq_true hsz
  obtain ⟨n, l⟩ := h
  obtain ⟨h1, h2⟩ := vcells hv hu
  refine ⟨_, _, _, _, _, hp, .inl hrun, push_vec hr sz [v] x.cells t (by simp; omega) (fun u hu => ?_) (fun i j e u y he hu hy => ?_), ext_push hr _ _, ref_new⟩
  · simp only [List.mem_singleton] at hu; subst hu; exact hsz
  · cases i with
    | zero => simp at he; subst he; exact h2 j u y hu (by simpa using hy)
    | succ i => simp at he

theorem does_boxedR (hr : Rep c h w) {v : SV} {x : Value} {sz : Nat} {t : TypeId} (hv : VR c h w v x) (hrun : (execOp a.eval o).run P w = .ok (.value (.pointer (some ⟨w.heap.size, 0, none⟩))) (w.alloc (.cells x.cells t)))
    (hp : match (generalizing := false) v, h with
      | .agg cs, ⟨n, l⟩ => asr (allOne cs && Nat.beq cs.length sz) (k (.ref n 0 0 0) ⟨n + 1, (n, .vec 0 1 cs ⟨false, some t⟩) :: l⟩)
      | _, _ => False) : Does P c h w a o k := by
  split at hp
  · rename_i cs n l
    replace hp := asr_iff.1 hp
    obtain ⟨hc, hp⟩ := hp
    simp only [Bool.and_eq_true] at hc
    obtain ⟨hone, hlen⟩ := hc
    obtain ⟨C, rfl, h1, h2⟩ := hv.agg_inv
    have hcells : (Value.agg C).cells = C := rfl
    rw [hcells] at hrun
    have one : ∀ v ∈ cs, v.cells.length = 1 ∧ v.cells = [v] := by
      clear hlen hp h1 h2 hv hrun
      induction cs with
      | nil => intro v hv; cases hv
      | cons u r ih =>
        simp only [allOne, Bool.and_eq_true] at hone
        intro v hv
        rcases List.mem_cons.1 hv with rfl | hv
        · cases v <;> first | exact ⟨rfl, rfl⟩ | cases hone.1
        · exact ih hone.2 v hv
    refine ⟨_, _, _, _, _, hp, .inl hrun, push_vec hr 1 cs C t (by omega) (fun u hu => (one u hu).1) (fun i j e u y he hu hy => ?_), ext_push hr _ _, ref_new⟩
    have := (one e (List.mem_of_getElem? he)).2
    rw [this] at hu
    cases j with
    | zero => simp at hu; subst hu; exact h2 i e y he (by simpa using hy)
    | succ j => simp at hu
  · exact hp.elim
theorem does_boxR (hr : Rep c h w) (he : ER c h w e a.tmps) {t : TypeId} {x : Operand} {i : TypeInfo} (ho : o.op = .box t x) (_hi : P.info? t = some i) (hp : aop P Γ (.boxR t i.size (cOpd x)) e h k kp) : Does P c h w a o k := by
  simp only [aop, evK_eq] at hp
  exact does_boxedR hr (he.ev x) (t := t) (by simp [execOp, ho, Instr.box, newVar, newRow]) hp
theorem does_allocR (hr : Rep c h w) {t : TypeId} {i : TypeInfo} {z : Value} (ho : o.op = .alloc t) (hi : P.info? t = some i) (hz : i.zero = some z) (hp : aop P Γ (.boxR t i.size (.const (ofVal 4 z))) e h k kp) : Does P c h w a o k := by
  simp only [aop, AOpd.evK] at hp
  exact does_boxedR hr (x := z) (.pure (ofVal_vp 4 z)) (t := t) (by simp [execOp, ho, Instr.alloc, newVar, newRow, zero_run hi hz]) hp
theorem does_box (hr : Rep c h w) (he : ER c h w e a.tmps) {t : TypeId} {x : Operand} {i : TypeInfo} (ho : o.op = .box t x) (_hi : P.info? t = some i) (hp : aop P Γ (.box t i.size (cOpd x)) e h k kp) : Does P c h w a o k := by
  simp only [aop, evK_eq] at hp
  exact does_boxed hr (he.ev x) (t := t) (by simp [execOp, ho, Instr.box, newVar, newRow]) hp

theorem does_alloc (hr : Rep c h w) {t : TypeId} {i : TypeInfo} {z : Value} (ho : o.op = .alloc t) (hi : P.info? t = some i) (hz : i.zero = some z) (hp : aop P Γ (.box t i.size (.const (ofVal 4 z))) e h k kp) : Does P c h w a o k := by
  simp only [aop, AOpd.evK] at hp
  exact does_boxed hr (x := z) (.pure (ofVal_vp 4 z)) (t := t) (by simp [execOp, ho, Instr.alloc, newVar, newRow, zero_run hi hz]) hp

/-! Lists written in place. -/
def setAll : List SV → Nat → List SV → List SV
  | l, _, [] => l
  | l, i, v :: vs => setAll (l.set i v) (i + 1) vs
theorem setAll_length : ∀ (l : List SV) (i : Nat) (vs : List SV), (setAll l i vs).length = l.length
  | l, i, [] => rfl
  | l, i, v :: vs => by simp [setAll, setAll_length]
theorem setAll_get : ∀ (l : List SV) (i : Nat) (vs : List SV) (j : Nat), i + vs.length ≤ l.length → (setAll l i vs)[j]? = if i ≤ j ∧ j < i + vs.length then vs[j - i]? else l[j]?
  | l, i, [], j, _ => by simp [setAll]; omega
  | l, i, v :: vs, j, hl => by
    simp only [List.length_cons] at hl
    rw [setAll, setAll_get _ _ _ _ (by simp; omega)]
    simp only [List.length_cons, List.getElem?_set]
    by_cases h1 : j = i
    · subst h1
      rw [if_neg (by omega), if_pos (by omega)]
      have : j < l.length := by omega
      simp [this]
    · by_cases h2 : i + 1 ≤ j ∧ j < i + 1 + vs.length
      · rw [if_pos h2, if_pos (by omega)]
        have : j - i = (j - (i + 1)) + 1 := by omega
        rw [this]
        simp
      · rw [if_neg h2, if_neg (by omega), if_neg (by omega)]
theorem setL_iff {α : Type _} : ∀ {l : List α} {i : Nat} {v : α} {K : List α → Prop}, setL l i v K ↔ i < l.length ∧ K (l.set i v)
  | [], i, v, K => by simp [setL]
  | x :: r, 0, v, K => by simp [setL]
  | x :: r, i+1, v, K => by simp [setL, setL_iff]
theorem setRun_iff : ∀ {vs l : List SV} {i : Nat} {K : List SV → Prop}, setRun l i vs K ↔ (vs = [] ∨ i + vs.length ≤ l.length) ∧ K (setAll l i vs)
  | [], l, i, K => by simp [setRun, setAll]
  | v :: vs, l, i, K => by
    simp only [setRun, setL_iff, setRun_iff, setAll, List.length_set, List.length_cons]
    constructor
    · rintro ⟨h1, h2, h3⟩
      refine ⟨.inr ?_, h3⟩
      rcases h2 with rfl | h2
      · simp; omega
      · omega
    · rintro ⟨h1, h3⟩
      rcases h1 with h1 | h1
      · cases h1
      · exact ⟨by omega, .inr (by omega), h3⟩

theorem storeCells_run (P : Program) (b o : Nat) (ty : TypeId) (fz : Nat × Nat) : ∀ (vs : List Value) (i : Nat) (C : Array Value) (w : World), w.heap[b]? = some (.cells C ty fz) →
    (∀ k, k < C.size → ¬ (fz.1 ≤ k ∧ k < fz.2)) → (vs = [] ∨ o + i + vs.length ≤ C.size) → (∀ v ∈ vs, v.oneCell' = true) →
    ∃ w' C', (storeCells ⟨b, o, none⟩ vs i).run P w = .ok () w' ∧ w'.os = w.os ∧ w'.tape = w.tape ∧ w'.output = w.output ∧ w'.heap.size = w.heap.size ∧ (∀ b', b' ≠ b → w'.heap[b']? = w.heap[b']?) ∧
      w'.heap[b]? = some (.cells C' ty fz) ∧ C'.size = C.size ∧ ∀ k, C'[k]? = if o + i ≤ k ∧ k < o + i + vs.length then vs[k - (o + i)]? else C[k]?
  | [], i, C, w, hw, _, _, _ => ⟨w, C, rfl, rfl, rfl, rfl, rfl, fun _ _ => rfl, hw, rfl, fun k => by simp; omega⟩
  | v :: r, i, C, w, hw, hf, hl, h1 => by
    simp only [List.length_cons] at hl
    have hl : o + i + (r.length + 1) ≤ C.size := by rcases hl with h | h; · cases h
                                                    · exact h
    have hi : o + i < C.size := by omega
    have hcell : w.cell? ⟨b, o + i, none⟩ = some C[o + i] := by simp [World.cell?, hw, hi]
    have hfro : w.frozen? ⟨b, o + i, none⟩ = false := by
      have := hf (o + i) hi
      simp only [World.frozen?, hw, Bool.and_eq_false_iff, decide_eq_false_iff_not]
      omega
    have hblt : b < w.heap.size := by
      rcases Nat.lt_or_ge b w.heap.size with h | h
      · exact h
      · rw [Array.getElem?_eq_none h] at hw; cases hw
    have hset : (w.setCell ⟨b, o + i, none⟩ v).heap[b]? = some (.cells (C.setIfInBounds (o + i) v) ty fz) := by
      simp only [World.setCell, Array.getElem?_modify, if_true, hw, Option.map_some]
      rfl
    obtain ⟨w', C', hrun, e1, e2, e3, e4, e5, e6, e7, e8⟩ := storeCells_run P b o ty fz r (i + 1) (C.setIfInBounds (o + i) v) (w.setCell ⟨b, o + i, none⟩ v) hset (by simpa using hf) (.inr (by simp; omega)) (fun x hx => h1 x (by simp [hx]))
    refine ⟨w', C', ?_, e1, e2, e3, by rw [e4]; simp [World.setCell], fun b' hb' => (e5 b' hb').trans ?_, e6, by rw [e7]; simp, fun k => ?_⟩
    · simp only [storeCells, Sem.run_bind, add_eq, run_store P w _ v _ (h1 v (by simp)), hcell, hfro, Bool.false_eq_true, if_false, Result.andThen_ok]
      exact hrun
    · simp only [World.setCell, Array.getElem?_modify]
      rw [if_neg (fun e => hb' e.symm)]
    · rw [e8 k]
      simp only [List.length_cons, Array.getElem?_setIfInBounds]
      by_cases h2 : o + (i + 1) ≤ k ∧ k < o + (i + 1) + r.length
      · rw [if_pos h2, if_pos (by omega)]
        have : k - (o + i) = (k - (o + (i + 1))) + 1 := by omega
        rw [this]; simp
      · rw [if_neg h2]
        by_cases h3 : o + i = k
        · subst h3
          rw [if_pos rfl, if_pos hi, if_pos (by omega)]
          simp
        · rw [if_neg h3, if_neg (by omega)]

theorem VR.one {v : SV} {x : Value} (hv : VR c h w v x) (h1 : v.one = true) : x.oneCell' = true := by
  cases hv with
  | pure hv => cases hv <;> first | rfl | cases h1
  | ref i g idx sub x hx => obtain ⟨a, rfl⟩ := hx; rfl
  | sl i g sz off len cap x hx => obtain ⟨a, l, c, rfl⟩ := hx; rfl
  | mapv i g x hx => obtain ⟨r, rfl⟩ := hx; rfl
  | iface => rfl
  | agg => cases h1
  | tup => cases h1
  | func => rfl
theorem allOne_mem : ∀ {vs : List SV}, allOne vs = true → ∀ v ∈ vs, v.one = true
  | [], _, v, hv => by cases hv
  | x :: r, hall, v, hv => by
    simp only [allOne, Bool.and_eq_true] at hall
    rcases List.mem_cons.1 hv with rfl | hv
    · exact hall.1
    · exact allOne_mem hall.2 v hv

theorem ext_put {n : Nat} {l : List (Nat × AObj)} {i g sz : Nat} {elems elems' : List SV} {sk : Sk} {w' : World} (hr : Rep c ⟨n, l⟩ w) (ho : objL l i = some (.vec g sz elems sk))
    (e1 : w'.os = w.os) (e2 : w'.tape = w.tape) (e3 : w'.output = w.output) (e4 : w'.heap.size = w.heap.size) (e5 : ∀ b', b' ≠ c.β i → w'.heap[b']? = w.heap[b']?) (e6 : w'.shape? (c.β i) = w.shape? (c.β i)) :
    Ext c ⟨n, l⟩ w c ⟨n, putO l i (.vec g sz elems' sk)⟩ w' where
  os := e1
  tape := e2
  output := e3
  size := by omega
  frame b hb hn := e5 b (fun e => hn i _ ho e.symm)
  shape b hb := by
    by_cases h : b = c.β i
    · rw [h]; exact e6
    · simp only [World.shape?, e5 b h]
  im _ hb := hb
  im' _ hb := .inl hb
  nxt := Nat.le_refl _
  old j o' hj ho' := by
    simp only [Heap.obj, objL_put] at ho'
    by_cases h : j = i
    · subst h
      rw [if_pos rfl, ho] at ho'
      cases ho'
      exact ⟨_, ho, Nat.le_refl _, rfl, fun _ => rfl⟩
    · rw [if_neg h] at ho'
      exact ⟨o', ho', Nat.le_refl _, rfl, fun _ => rfl⟩
  new j o' ho' := by
    simp only [Heap.obj, objL_put] at ho'
    by_cases h : j = i
    · subst h; exact .inr ⟨_, ho, rfl⟩
    · rw [if_neg h] at ho'; exact .inr ⟨o', ho', rfl⟩

theorem rep_put {n : Nat} {l : List (Nat × AObj)} {i g sz : Nat} {elems elems' : List SV} {sk : Sk} {w' : World} {C' : Array Value} {ty : TypeId} {fz : Nat × Nat} (hr : Rep c ⟨n, l⟩ w) (ho : objL l i = some (.vec g sz elems sk))
    (hx : Ext c ⟨n, l⟩ w c ⟨n, putO l i (.vec g sz elems' sk)⟩ w') (e4 : w'.heap.size = w.heap.size) (e5 : ∀ b', b' ≠ c.β i → w'.heap[b']? = w.heap[b']?) (e6 : w'.heap[c.β i]? = some (.cells C' ty fz))
    (hle : elems'.length * sz ≤ C'.size) (heq : sk.slack = false → elems'.length * sz = C'.size) (hty : ∀ t, sk.ty = some t → t = ty) (hc : ∀ v ∈ elems', v.cells.length = sz) (hf : ∀ k, k < C'.size → ¬ (fz.1 ≤ k ∧ k < fz.2))
    (hcell : ∀ (p j : Nat) (e v : SV) (x : Value), elems'[p]? = some e → e.cells[j]? = some v → C'[p * sz + j]? = some x → VR c ⟨n, l⟩ w v x) : Rep c ⟨n, putO l i (.vec g sz elems' sk)⟩ w' := by
  have key : ∀ j o', (Heap.mk n (putO l i (.vec g sz elems' sk))).obj j = some o' → (j = i ∧ o' = .vec g sz elems' sk) ∨ (j ≠ i ∧ objL l j = some o') := by
    intro j o' ho'
    simp only [Heap.obj, objL_put] at ho'
    by_cases h : j = i
    · rw [if_pos h, ho] at ho'; cases ho'; exact .inl ⟨h, rfl⟩
    · rw [if_neg h] at ho'; exact .inr ⟨h, ho'⟩
  have key2 : ∀ j o', (Heap.mk n (putO l i (.vec g sz elems' sk))).obj j = some o' → ∃ o'', objL l j = some o'' := by
    intro j o' ho'
    rcases key j o' ho' with ⟨rfl, _⟩ | ⟨_, h⟩
    · exact ⟨_, ho⟩
    · exact ⟨_, h⟩
  refine ⟨fun j o' ho' => ?_, fun j o' ho' => ?_, fun j j' o' p' ho' hp' he => ?_, fun j o' ho' => ?_, fun b hb => ?_, hr.globx hx⟩
  · obtain ⟨o'', h⟩ := key2 j o' ho'; exact hr.lt j o'' h
  · rcases key j o' ho' with ⟨rfl, rfl⟩ | ⟨hj, h⟩
    · exact .vec g sz elems' sk C' ty fz e6 hle heq hty hc hf fun p j' e v x h1 h2 h3 => (hcell p j' e v x h1 h2 h3).mono hr hx
    · exact (hr.obj j o' h).mono hr hx (e5 _ fun he => hj (hr.inj j i _ _ h ho he))
  · obtain ⟨o'', h⟩ := key2 j o' ho'
    obtain ⟨p'', h'⟩ := key2 j' p' hp'
    exact hr.inj j j' _ _ h h' he
  · obtain ⟨o'', h⟩ := key2 j o' ho'; exact hr.apart j o'' h
  · rw [e4]; exact hr.im b hb

theorem storeV_inv {w0 v : SV} {sub : Nat} {K : SV → Prop} (hp : storeV w0 v sub K) (hu : v ≠ .undef) : ∃ w1, K w1 ∧ w1.cells = setAll w0.cells sub v.cells ∧ (v.cells = [] ∨ sub + v.cells.length ≤ w0.cells.length) := by
  unfold storeV at hp
  split at hp
  · obtain ⟨_, hp⟩ := cellsK_iff.1 hp
    obtain ⟨h1, hp⟩ := setRun_iff.1 hp
    exact ⟨_, hp, rfl, h1⟩
  · rename_i hna
    have h0 : w0.cells = [w0] := by cases w0 <;> first | rfl | exact absurd rfl (hna _)
    split at hp
    · exact hp.elim
    · rename_i hnv
      have h1 : v.cells = [v] := by cases v <;> first | rfl | exact absurd rfl (hnv _)
      cases sub with
      | zero => exact ⟨v, hp, by rw [h0, h1]; rfl, .inr (by rw [h0, h1]; simp)⟩
      | succ s => exact hp.elim

theorem does_store (hr : Rep c h w) (he : ER c h w e a.tmps) {t : TypeId} {x y : Operand} {i : TypeInfo} (ho : o.op = .store t x y) (hi : P.info? t = some i) (hp : aop P Γ (.store i.size (cOpd x) (cOpd y)) e h k kp) : Does P c h w a o k := by
  simp only [aop, evK_eq] at hp
  have hx := he.ev x
  have hy := he.ev y
  unfold storeP at hp
  obtain ⟨hu, hp⟩ := cellsK_iff.1 hp
  replace hp := asr_iff.1 hp
  obtain ⟨hsz, hp⟩ := hp
  simp only [Bool.and_eq_true] at hsz
  obtain ⟨hsz, hone⟩ := hsz
  have hsz := Nat.eq_of_beq_eq_true hsz
  obtain ⟨n, l⟩ := h
  split at hp
  · rename_i ii g idx sub m hl hev hhh
    cases hhh
    rw [hev] at hx
    simp only [lookO_eq] at hp
    split at hp
    · rename_i ob hob
      split at hp
      · rename_i g' sz elems sk
        replace hp := asr_iff.1 hp
        obtain ⟨hg, hp⟩ := hp
        have hg := Nat.eq_of_beq_eq_true hg
        rw [getL_eq] at hp
        split at hp
        · rename_i w0 hw0
          obtain ⟨w1, hp, hw1, hfit⟩ := storeV_inv hp hu
          obtain ⟨hidx, hp⟩ := setL_iff.1 hp
          rw [setO_eq] at hp
          have hxx := hx.ref_inv (o := .vec g' sz elems sk) hob hg
          simp only [AObj.sz] at hxx
          obtain ⟨hys, hyc⟩ := vcells hy hu
          cases hr.obj ii _ hob with
          | vec _ _ _ _ C ty fz hw hle heq hty hc hf hcell =>
            have hw0len : w0.cells.length = sz := hc w0 (List.mem_of_getElem? hw0)
            have e0 : (idx + 1) * sz ≤ elems.length * sz := Nat.mul_le_mul_right _ hidx
            rw [Nat.succ_mul] at e0
            have hrunL := storeCells_run P (c.β ii) (idx * sz + sub) ty fz (a.eval y).cells.toList 0 C w hw hf (by
              rcases hfit with h | h
              · left; apply List.eq_nil_of_length_eq_zero; simp [hys, h]
              · right; simp [hys]; omega) (fun v hv => by
              obtain ⟨j, hj⟩ := List.mem_iff_getElem?.1 hv
              have hj' : (a.eval y).cells[j]? = some v := by simpa using hj
              have hlt : j < ((cOpd y).ev e).cells.length := by
                rw [← hys]
                rcases Nat.lt_or_ge j (a.eval y).cells.size with h | h
                · exact h
                · rw [Array.getElem?_eq_none h] at hj'; cases hj'
              exact (hyc j _ v (List.getElem?_eq_getElem hlt) hj').one (allOne_mem hone _ (List.getElem_mem hlt)))
            obtain ⟨w', C', hrun, e1, e2, e3, e4, e5, e6, e7, e8⟩ := hrunL
            have hshape : w'.shape? (c.β ii) = w.shape? (c.β ii) := by simp only [World.shape?, e6, hw, e7]
            have hxx' := ext_put (elems' := elems.set idx w1) hr hob e1 e2 e3 e4 e5 hshape
            refine ⟨_, undef, _, c, w', hp, .inr ⟨?_, rfl⟩, rep_put hr hob hxx' e4 e5 e6 (by simp; omega) (fun hs => by simp [e7, heq hs]) hty (fun v hv => ?_) (by rw [e7]; exact hf) (fun p j ee v z hpe hv hz => ?_), hxx', .pure (.tup _ _ rfl fun i v x hv => by simp at hv)⟩
            · simp only [execOp, ho, hxx, Instr.storeAt, Instr.sureAddr, storeVar, Sem.run_bind, Sem.run_pure, Result.andThen_ok, sizeOf_run hi]
              have : ¬ (a.eval y).cells.size ≠ i.size := by omega
              simp only [this, if_false, hrun, Result.andThen_ok]
            · rcases List.mem_or_eq_of_mem_set hv with hv | rfl
              · exact hc v hv
              · rw [hw1, setAll_length]; exact hw0len
            · rw [e8] at hz
              simp only [Nat.add_zero, Array.length_toList] at hz
              rw [List.getElem?_set] at hpe
              by_cases hpi : idx = p
              · subst hpi
                rw [if_pos rfl, if_pos hidx] at hpe
                cases hpe
                rw [hw1] at hv
                by_cases hvs : ((cOpd y).ev e).cells = []
                · rw [hvs] at hv
                  have hzero : (a.eval y).cells.size = 0 := by rw [hys, hvs]; rfl
                  rw [if_neg (by omega)] at hz
                  exact hcell idx j w0 v z hw0 hv hz
                · have hfit' : sub + ((cOpd y).ev e).cells.length ≤ w0.cells.length := hfit.resolve_left hvs
                  rw [setAll_get _ _ _ _ hfit'] at hv
                  by_cases hin : sub ≤ j ∧ j < sub + ((cOpd y).ev e).cells.length
                  · rw [if_pos hin] at hv
                    rw [if_pos (by omega)] at hz
                    have : idx * sz + j - (idx * sz + sub) = j - sub := by omega
                    rw [this] at hz
                    exact hyc (j - sub) v z hv (by simpa using hz)
                  · rw [if_neg hin] at hv
                    rw [if_neg (by omega)] at hz
                    exact hcell idx j w0 v z hw0 hv hz
              · rw [if_neg hpi] at hpe
                have hjlt : j < sz := by
                  have := hc ee (List.mem_of_getElem? hpe)
                  rcases Nat.lt_or_ge j ee.cells.length with h | h
                  · omega
                  · rw [List.getElem?_eq_none h] at hv; cases hv
                have hout : ¬ (idx * sz + sub ≤ p * sz + j ∧ p * sz + j < idx * sz + sub + (a.eval y).cells.size) := by
                  intro ⟨h1, h2⟩
                  have hfit' : sub + ((cOpd y).ev e).cells.length ≤ sz := by
                    rcases hfit with h | h
                    · rw [h] at hys
                      simp only [List.length_nil] at hys
                      omega
                    · omega
                  rcases Nat.lt_or_gt_of_ne hpi with hlt | hlt
                  · have : (idx + 1) * sz ≤ p * sz := Nat.mul_le_mul_right _ hlt
                    rw [Nat.succ_mul] at this
                    omega
                  · have : (p + 1) * sz ≤ idx * sz := Nat.mul_le_mul_right _ hlt
                    rw [Nat.succ_mul] at this
                    omega
                rw [if_neg hout] at hz
                exact hcell p j ee v z hpe hv hz
        · exact hp.elim
      · exact hp.elim
    · exact hp.elim
  · exact hp.elim
end
end Ab
namespace Ab
set_option linter.unusedVariables false
set_option linter.unusedSimpArgs false
open Go
section
variable {P : Program} {Γ : CallR} {c : Cx} {h : Heap} {w : World} {e : Env} {a : Act} {o : Oper} {k kp : SV → Heap → Prop}

theorem foldSet (off : Nat) : ∀ (vs : List Value) (n : Nat) (C : Array Value),
    ((vs.zipIdx n).foldl (fun cs (p : Value × Nat) => cs.setIfInBounds (off + p.2) p.1) C).size = C.size ∧
    ∀ k, ((vs.zipIdx n).foldl (fun cs (p : Value × Nat) => cs.setIfInBounds (off + p.2) p.1) C)[k]? = if off + n ≤ k ∧ k < off + n + vs.length ∧ k < C.size then vs[k - (off + n)]? else C[k]?
  | [], n, C => ⟨rfl, fun k => by simp; omega⟩
  | v :: vs, n, C => by
    simp only [List.zipIdx_cons, List.foldl_cons]
    obtain ⟨h1, h2⟩ := foldSet off vs (n + 1) (C.setIfInBounds (off + n) v)
    refine ⟨by rw [h1]; simp, fun k => ?_⟩
    rw [h2 k]
    simp only [Array.size_setIfInBounds, List.length_cons, Array.getElem?_setIfInBounds]
    by_cases hk : off + n = k
    · subst hk
      by_cases hs : off + n < C.size
      · rw [if_neg (by omega), if_pos rfl, if_pos hs, if_pos (by omega)]; simp
      · rw [if_neg (by omega), if_pos rfl, if_neg hs, if_neg (by omega)]
        rw [Array.getElem?_eq_none (by omega)]
    · by_cases hin : off + (n + 1) ≤ k ∧ k < off + (n + 1) + vs.length ∧ k < C.size
      · rw [if_pos hin, if_pos (by omega)]
        have : k - (off + n) = (k - (off + (n + 1))) + 1 := by omega
        rw [this]; simp
      · rw [if_neg hin, if_neg hk, if_neg (by omega)]

theorem fill_cons (place : Nat → Option (Nat × Nat)) (cells : Array Value) (i off sz : Nat) (v : Value) (rest : List (Nat × Value)) (hp : place i = some (off, sz)) (hs : v.cells.size = sz) (hle : off + v.cells.size ≤ cells.size) :
    ∃ C', Instr.fill place cells ((i, v) :: rest) = Instr.fill place C' rest ∧ C'.size = cells.size ∧ ∀ k, C'[k]? = if off ≤ k ∧ k < off + sz then v.cells[k - off]? else cells[k]? := by
  obtain ⟨h1, h2⟩ := foldSet off v.cells.toList 0 cells
  refine ⟨v.cells.zipIdx.foldl (fun cs (p : Value × Nat) => cs.setIfInBounds (off + p.2) p.1) cells, ?_, ?_, fun k => ?_⟩
  · have : ¬ (off + v.cells.size > cells.size) := by omega
    simp [Instr.fill, hp, hs, Nat.not_lt.2 (hs ▸ hle)]
  · rw [← Array.foldl_toList, Array.toList_zipIdx]; exact h1
  · rw [← Array.foldl_toList, Array.toList_zipIdx, h2 k]
    simp only [Nat.add_zero, Array.length_toList, Array.getElem?_toList]
    by_cases hin : off ≤ k ∧ k < off + sz
    · rw [if_pos (by omega), if_pos hin]
    · rw [if_neg (by omega), if_neg hin]

/-- Cells that read so. -/
def CR (c : Cx) (h : Heap) (w : World) (cs : List SV) (C : Array Value) : Prop := C.size = cs.length ∧ ∀ (i : Nat) (v : SV) (x : Value), cs[i]? = some v → C[i]? = some x → VR c h w v x

theorem fillParts_run (he : ER c h w e a.tmps) (place : Nat → Option (Nat × Nat)) {K : List SV → Prop} : ∀ (ps : List (Nat × Operand)) (l : List (Nat × Nat × AOpd)) (cs : List SV) (C : Array Value),
    ps.mapM (fun (j, x) => (place j).map fun (off, sz) => (off, sz, cOpd x)) = some l → CR c h w cs C → fillParts e l cs K →
    ∃ cs' C', K cs' ∧ Instr.fill place C (ps.map fun (i, x) => (i, a.eval x)) = some C' ∧ CR c h w cs' C'
  | [], l, cs, C, hl, hc, hp => by
    simp only [List.mapM_nil, Option.pure_def, Option.some.injEq] at hl
    subst hl
    exact ⟨cs, C, hp, rfl, hc⟩
  | (j, x) :: ps, l, cs, C, hl, hc, hp => by
    simp only [List.mapM_cons, Option.bind_eq_bind, Option.pure_def, Option.bind_eq_some_iff, Option.map_eq_some_iff, Option.some.injEq] at hl
    obtain ⟨y, ⟨⟨off, sz⟩, hpl, rfl⟩, l', hl', rfl⟩ := hl
    simp only [fillParts, evK_eq] at hp
    obtain ⟨hu, hp⟩ := cellsK_iff.1 hp
    replace hp := asr_iff.1 hp
    obtain ⟨hsz, hp⟩ := hp
    simp only [Bool.and_eq_true] at hsz
    obtain ⟨hsz, hlen⟩ := hsz
    have hsz := Nat.eq_of_beq_eq_true hsz
    have hlen := Nat.le_of_ble_eq_true hlen
    obtain ⟨hfit, hp⟩ := setRun_iff.1 hp
    obtain ⟨hy1, hy2⟩ := vcells (he.ev x) hu
    obtain ⟨C1, h1, h2, h3⟩ := fill_cons place C j off sz (a.eval x) (ps.map fun (i, x) => (i, a.eval x)) hpl (by omega) (by rw [hc.1]; omega)
    obtain ⟨cs', C', hk, hf, hcr⟩ := fillParts_run he place ps l' _ C1 hl' ⟨by rw [h2, setAll_length]; exact hc.1, fun i v z hv hz => by
      rw [h3] at hz
      by_cases hnil : ((cOpd x).ev e).cells = []
      · rw [hnil] at hv
        have : sz = 0 := by rw [← hsz, hnil]; rfl
        rw [if_neg (by omega)] at hz
        exact hc.2 i v z hv hz
      · have hfit' := hfit.resolve_left hnil
        rw [setAll_get _ _ _ _ hfit'] at hv
        by_cases hin : off ≤ i ∧ i < off + sz
        · rw [if_pos (by omega)] at hv
          rw [if_pos hin] at hz
          exact hy2 _ v z hv hz
        · rw [if_neg (by omega)] at hv
          rw [if_neg hin] at hz
          exact hc.2 i v z hv hz⟩ hp
    exact ⟨cs', C', hk, by rw [List.map_cons, h1]; exact hf, hcr⟩

theorem replK_eq (v : SV) : ∀ (n : Nat) (K : List SV → Prop), replK n v K = K (List.replicate n v)
  | 0, K => rfl
  | n+1, K => by unfold replK; rw [replK_eq v n]; rfl

theorem places_run (fs : Array Field) (hall : fs.toList.all (fun f => (P.info? f.type).isSome) = true) :
    (fs.mapM fun f => (do pure (f.offset, ← Go.sizeOf f.type) : Sem (Nat × Nat))).run P w = .ok (fs.map fun f => (f.offset, P.cellsOf f.type)) w := by
  rw [Array.mapM_eq_mapM_toList]
  have : ∀ l : List Field, l.all (fun f => (P.info? f.type).isSome) = true → (l.mapM fun f => (do pure (f.offset, ← Go.sizeOf f.type) : Sem (Nat × Nat))).run P w = .ok (l.map fun f => (f.offset, P.cellsOf f.type)) w := by
    intro l
    induction l with
    | nil => intro _; simp
    | cons f l ih =>
      intro hl
      simp only [List.all_cons, Bool.and_eq_true] at hl
      obtain ⟨i, hi⟩ := Option.isSome_iff_exists.1 hl.1
      have hc : P.cellsOf f.type = i.size := by simp [Program.cellsOf, hi]
      simp only [List.mapM_cons, Sem.run_bind, sizeOf_run hi, Result.andThen_ok, Sem.run_pure, ih hl.2, hc, List.map_cons]
  rw [Sem.run_map, this fs.toList hall]
  simp only [Result.andThen_ok, ← Array.toList_map, Array.toArray_toList]

theorem sees_build (he : ER c h w e a.tmps) {t : TypeId} {ps : Array (Nat × Operand)} {fs : Array Field} {i : TypeInfo} {z : Value} {l : List (Nat × Nat × AOpd)} (ho : o.op = .build t ps) (hu : P.underlying t = some (.struct fs))
    (hi : P.info? t = some i) (hz : i.zero = some z) (hk : (ofVal 4 z).known = true) (hall : fs.toList.all (fun f => (P.info? f.type).isSome) = true)
    (hl : ps.toList.mapM (fun (j, x) => (fs[j]?).bind fun f => (P.info? f.type).map fun g => (f.offset, g.size, cOpd x)) = some l)
    (hp : aop P Γ (.build (ofVal 4 z).cells l) e h k kp) : Sees P c h w a o k := by
  simp only [aop] at hp
  have hzv : VR c h w (ofVal 4 z) z := .pure (ofVal_vp 4 z)
  obtain ⟨hz1, hz2⟩ := vcells hzv (fun hh => by rw [hh] at hk; cases hk)
  have hl' : ps.toList.mapM (fun (j, x) => (((fs.map fun f => (f.offset, P.cellsOf f.type)) : Array (Nat × Nat))[j]?).map fun (off, sz) => (off, sz, cOpd x)) = some l := by
    rw [← hl]
    congr 1
    funext ⟨j, x⟩
    simp only [Array.getElem?_map]
    cases hf : fs[j]? with
    | none => rfl
    | some f =>
      have hmem : f ∈ fs.toList := by
        rw [← Array.getElem?_toList] at hf
        exact List.mem_of_getElem? hf
      obtain ⟨i, hi⟩ := Option.isSome_iff_exists.1 (List.all_eq_true.1 hall f hmem)
      simp [hi, Program.cellsOf]
  obtain ⟨cs', C', hk', hf, hcr⟩ := fillParts_run he (fun j => (fs.map fun f => (f.offset, P.cellsOf f.type))[j]?) ps.toList l (ofVal 4 z).cells z.cells hl' ⟨hz1, hz2⟩ hp
  refine .of _ (.agg C') hk' ?_ (.agg _ _ hcr.1 hcr.2)
  have hpl : (ps.map fun (i, x) => (i, a.eval x)).toList = ps.toList.map fun (i, x) => (i, a.eval x) := by simp
  simp only [execOp, ho, Instr.build, Sem.run_bind, zero_run hi hz, Result.andThen_ok, run_underlying hu, places_run fs hall, hpl, hf]
  rfl

/-- Elements, each of so many cells. -/
def LR (c : Cx) (h : Heap) (w : World) (sz : Nat) (elems : List SV) (C : Array Value) : Prop :=
  C.size = elems.length * sz ∧ (∀ v ∈ elems, v.cells.length = sz) ∧ ∀ (i j : Nat) (e v : SV) (x : Value), elems[i]? = some e → e.cells[j]? = some v → C[i * sz + j]? = some x → VR c h w v x

theorem fillElems_run (he : ER c h w e a.tmps) (sz : Nat) {K : List SV → Prop} : ∀ (ps : List (Nat × Operand)) (cs : List SV) (C : Array Value),
    LR c h w sz cs C → fillElems sz e (ps.map fun (j, x) => (j, cOpd x)) cs K →
    ∃ cs' C', K cs' ∧ Instr.fill (fun i => some (i * sz, sz)) C (ps.map fun (i, x) => (i, a.eval x)) = some C' ∧ LR c h w sz cs' C' ∧ cs'.length = cs.length
  | [], cs, C, hc, hp => ⟨cs, C, hp, rfl, hc, rfl⟩
  | (p, x) :: ps, cs, C, hc, hp => by
    simp only [List.map_cons, fillElems, evK_eq] at hp
    obtain ⟨hu, hp⟩ := cellsK_iff.1 hp
    replace hp := asr_iff.1 hp
    obtain ⟨hsz, hp⟩ := hp
    have hsz := Nat.eq_of_beq_eq_true hsz
    obtain ⟨hidx, hp⟩ := setL_iff.1 hp
    obtain ⟨hy1, hy2⟩ := vcells (he.ev x) hu
    have e0 : (p + 1) * sz ≤ cs.length * sz := Nat.mul_le_mul_right _ hidx
    rw [Nat.succ_mul] at e0
    obtain ⟨C1, h1, h2, h3⟩ := fill_cons (fun i => some (i * sz, sz)) C p (p * sz) sz (a.eval x) (ps.map fun (i, x) => (i, a.eval x)) rfl (by omega) (by rw [hc.1]; omega)
    obtain ⟨cs', C', hk, hf, hcr, hlen⟩ := fillElems_run he sz ps (cs.set p ((cOpd x).ev e)) C1 ⟨by rw [h2, hc.1]; simp, fun v hv => by
        rcases List.mem_or_eq_of_mem_set hv with hv | rfl
        · exact hc.2.1 v hv
        · exact hsz, fun i j ee v z hee hv hz => by
        rw [h3] at hz
        rw [List.getElem?_set] at hee
        by_cases hpi : p = i
        · subst hpi
          rw [if_pos rfl, if_pos hidx] at hee
          cases hee
          have hj : j < sz := by
            rw [← hsz]
            rcases Nat.lt_or_ge j ((cOpd x).ev e).cells.length with h | h
            · exact h
            · rw [List.getElem?_eq_none h] at hv; cases hv
          rw [if_pos (by omega)] at hz
          have : p * sz + j - p * sz = j := by omega
          rw [this] at hz
          exact hy2 j v z hv hz
        · rw [if_neg hpi] at hee
          have hj : j < sz := by
            rw [← hc.2.1 ee (List.mem_of_getElem? hee)]
            rcases Nat.lt_or_ge j ee.cells.length with h | h
            · exact h
            · rw [List.getElem?_eq_none h] at hv; cases hv
          have hout : ¬ (p * sz ≤ i * sz + j ∧ i * sz + j < p * sz + sz) := by
            intro ⟨q1, q2⟩
            rcases Nat.lt_or_gt_of_ne hpi with hlt | hlt
            · have : (p + 1) * sz ≤ i * sz := Nat.mul_le_mul_right _ hlt
              rw [Nat.succ_mul] at this
              omega
            · have : (i + 1) * sz ≤ p * sz := Nat.mul_le_mul_right _ hlt
              rw [Nat.succ_mul] at this
              omega
          rw [if_neg hout] at hz
          exact hc.2.2 i j ee v z hee hv hz⟩ hp
    exact ⟨cs', C', hk, by rw [List.map_cons, h1]; exact hf, hcr, by rw [hlen]; simp⟩

/-- A row of zero values. -/
theorem zeros_lr {z : Value} {sz : Nat} (hz : VR c h w (ofVal 4 z) z) (hk : (ofVal 4 z).known = true) (hs : (ofVal 4 z).cells.length = sz) (n : Nat) :
    LR c h w sz (List.replicate n (ofVal 4 z)) ((Array.range (n * sz)).map (z.cells[· % z.cells.size]!)) := by
  obtain ⟨h1, h2⟩ := vcells hz (fun hh => by rw [hh] at hk; cases hk)
  refine ⟨by simp, fun v hv => by rw [(List.mem_replicate.1 hv).2]; exact hs, fun i j ee v x he hv hx => ?_⟩
  obtain ⟨hi, rfl⟩ : i < n ∧ ofVal 4 z = ee := by
    rw [List.getElem?_replicate] at he
    split at he
    · rename_i h; exact ⟨h, Option.some.inj he⟩
    · cases he
  have hj : j < sz := by
    rw [← hs]
    rcases Nat.lt_or_ge j (ofVal 4 z).cells.length with h | h
    · exact h
    · rw [List.getElem?_eq_none h] at hv; cases hv
  have hzs : z.cells.size = sz := h1.trans hs
  have e0 : (i + 1) * sz ≤ n * sz := Nat.mul_le_mul_right _ hi
  rw [Nat.succ_mul] at e0
  have hmod : (i * sz + j) % z.cells.size = j := by rw [hzs, Nat.mul_comm, Nat.mul_add_mod, Nat.mod_eq_of_lt hj]
  have hjz : j < z.cells.size := by omega
  simp only [Array.getElem?_map, Array.getElem?_range] at hx
  rw [if_pos (by omega)] at hx
  simp only [Option.map_some, hmod, Option.some.injEq] at hx
  refine h2 j v x hv ?_
  rw [← hx]
  simp [hjz]

theorem range0 {α : Type} (f : Nat → α) : (Array.range 0).map f = #[] := Array.eq_empty_of_size_eq_zero (by simp)

theorem does_row (hr : Rep c h w) {sz len cap : Nat} {elems : List SV} {C : Array Value} {el : TypeId} (hlr : LR c h w sz elems C) (hlen : elems.length = cap) (hlc : len ≤ cap)
    (hrun : (execOp a.eval o).run P w = .ok (.value (.slice (some ⟨w.heap.size, 0, none⟩) len cap)) (w.alloc (.cells C el)))
    (hp : match h with | ⟨m, l⟩ => k (.sl m 0 sz 0 len (some cap)) ⟨m + 1, (m, .vec 0 sz elems ⟨false, some el⟩) :: l⟩) : Does P c h w a o k := by
  obtain ⟨n, l⟩ := h
  exact ⟨_, _, _, _, _, hp, .inl hrun, push_vec hr sz elems C el hlr.1.symm hlr.2.1 hlr.2.2, ext_push hr _ _, sl_new (heap_new _ _) hlc (by rw [hlr.1, hlen]; exact Nat.le_refl _)⟩

theorem buildSlice_run {P : Program} {w : World} {a : Act} {o : Oper} {t el : TypeId} {n : Nat} {ps : Array (Nat × Operand)} {i : TypeInfo} {z : Value} {C' : Array Value} (ho : o.op = .buildSlice t n ps) (hu : P.underlying t = some (.slice el))
    (hi : P.info? el = some i) (hz : i.zero = some z) (hn : n * i.size ≤ 16777216)
    (hf : Instr.fill (fun j => some (j * i.size, i.size)) ((Array.range (n * i.size)).map (z.cells[· % z.cells.size]!)) (ps.toList.map fun (j, x) => (j, a.eval x)) = some C') :
    (execOp a.eval o).run P w = .ok (.value (.slice (some ⟨w.heap.size, 0, none⟩) n n)) (w.alloc (.cells C' el)) := by
  have hpl : (ps.map fun (i, x) => (i, a.eval x)).toList = ps.toList.map fun (i, x) => (i, a.eval x) := by simp
  simp only [execOp, ho, Instr.buildSlice, Sem.run_bind, run_underlying hu, Result.andThen_ok, sizeOf_run hi]
  rw [if_neg (by omega)]
  by_cases h0 : n * i.size = 0
  · rw [if_pos h0]
    rw [h0] at hf
    simp only [range0] at hf
    simp only [Sem.run_bind, Sem.run_pure, Result.andThen_ok, h0, range0, hpl, hf]
    simp [newRow]
  · rw [if_neg h0]
    simp only [Sem.run_bind, zero_run hi hz, Sem.run_pure, Result.andThen_ok, hpl, hf]
    simp [newRow]

theorem does_buildSlice (hr : Rep c h w) (he : ER c h w e a.tmps) {t el : TypeId} {n : Nat} {ps : Array (Nat × Operand)} {i : TypeInfo} {z : Value} (ho : o.op = .buildSlice t n ps) (hu : P.underlying t = some (.slice el))
    (hi : P.info? el = some i) (hz : i.zero = some z) (hn : n * i.size ≤ 16777216) (hs : (ofVal 4 z).cells.length = i.size) (hk : (ofVal 4 z).known = true)
    (hp : aop P Γ (.buildSlice el i.size (ofVal 4 z) n (ps.toList.map fun (j, x) => (j, cOpd x))) e h k kp) : Does P c h w a o k := by
  simp only [aop, replK_eq] at hp
  have hzv : VR c h w (ofVal 4 z) z := .pure (ofVal_vp 4 z)
  obtain ⟨cs', C', hk', hf, hlr, hlen⟩ := fillElems_run he i.size ps.toList _ _ (zeros_lr hzv hk hs n) hp
  refine does_row hr hlr (len := n) (cap := n) (by simpa using hlen) (Nat.le_refl _) (el := el) (buildSlice_run ho hu hi hz hn hf) hk'

theorem wrap_i64 {n : Int} (h0 : -9223372036854775808 ≤ n) (h1 : n ≤ 9223372036854775807) : IntKind.i64.wrap n = n :=
  IntWalk.i64_in n ⟨h0, h1⟩

theorem does_makeSlice (hr : Rep c h w) (he : ER c h w e a.tmps) {t el : TypeId} {x y : Operand} {i : TypeInfo} {z : Value} (ho : o.op = .makeSlice t x y) (hu : P.underlying t = some (.slice el))
    (hi : P.info? el = some i) (hz : i.zero = some z) (hs : (ofVal 4 z).cells.length = i.size) (hk : (ofVal 4 z).known = true)
    (hp : aop P Γ (.makeSlice el i.size i.bytes (ofVal 4 z) (cOpd x) (cOpd y)) e h k kp) : Does P c h w a o k := by
  simp only [aop, evK_eq] at hp
  have hx := he.ev x
  have hy := he.ev y
  split at hp
  · rename_i k1 n k2 m h1 h2
    rw [h1] at hx; rw [h2] at hy
    replace hp := asr_iff.1 hp
    obtain ⟨hb, hp⟩ := hp
    simp only [Bool.and_eq_true, decide_eq_true_eq] at hb
    obtain ⟨⟨⟨b0, b1⟩, b2⟩, b3⟩ := hb
    have hzv : VR c h w (ofVal 4 z) z := .pure (ofVal_vp 4 z)
    refine does_row hr (zeros_lr hzv hk hs m.toNat) (len := n.toNat) (cap := m.toNat) (by simp) (by omega) (el := el) ?_ hp
    have hwn := wrap_i64 (n := n) (by omega) (by omega)
    have hwm := wrap_i64 (n := m) (by omega) (by omega)
    have ht1 : ¬ (m < 0) := by omega
    have ht2 : ¬ ((i.bytes : Int) * m > 2 ^ 48) := by
      have : (2 : Int) ^ 48 = 281474976710656 := by decide
      omega
    have hcond : (decide (m < 0) || decide ((i.bytes : Int) * m > 2 ^ 48) || decide (n < 0) || decide (n > m)) = false := by
      simp only [Bool.or_eq_false_iff, decide_eq_false_iff_not]
      exact ⟨⟨⟨ht1, ht2⟩, by omega⟩, by omega⟩
    simp only [execOp, ho, Instr.makeSlice, hx.int_inv, hy.int_inv, asInt, asIntOf, Sem.run_bind, Sem.run_pure, run_underlying hu, Result.andThen_ok, typeInfo, hi, run_program, hwn, hwm]
    rw [if_neg (by rw [hcond]; decide)]
    simp only [Sem.run_bind, run_askRoom, sizeOf_run hi, Result.andThen_ok]
    by_cases h0 : m.toNat * i.size = 0
    · rw [if_pos h0]
      simp [newRow, h0, range0]
    · rw [if_neg h0]
      simp [zero_run hi hz, newRow]
  · exact hp.elim
end
end Ab
namespace Ab
set_option linter.unusedVariables false
set_option linter.unusedSimpArgs false
open Go
section
variable {P : Program} {c : Cx} {h : Heap} {w : World} {e : Env} {a : Act} {o : Oper} {k kp : SV → Heap → Prop}

theorem rangeK_eq (get : Nat → SV) : ∀ (n j : Nat) (K : List SV → Prop), rangeK get n j K = K ((List.range' j n).map get)
  | 0, _, _ => rfl
  | n+1, j, K => by unfold rangeK; rw [rangeK_eq get n]; rfl
theorem strK_eq : ∀ (s : List UInt8) (K : List SV → Prop), strK s K = K (s.map fun b => .int .u8 b.toNat)
  | [], _ => rfl
  | b :: r, K => by unfold strK; rw [strK_eq r]; rfl
theorem appL_eq : ∀ (l m : List SV) (K : List SV → Prop), appL l m K = K (l ++ m)
  | [], _, _ => rfl
  | v :: r, m, K => by unfold appL; rw [appL_eq r]; rfl

/-- A list of elements and the cells that they lie in. -/
def LW (c : Cx) (h : Heap) (w : World) (sz : Nat) (elems : List SV) (vals : List Value) : Prop :=
  vals.length = elems.length * sz ∧ (∀ v ∈ elems, v.cells.length = sz) ∧ ∀ (i j : Nat) (e v : SV) (x : Value), elems[i]? = some e → e.cells[j]? = some v → vals[i * sz + j]? = some x → VR c h w v x

theorem getq_lt {α : Type} {l : List α} {i : Nat} {v : α} (h : l[i]? = some v) : i < l.length := by
  rcases Nat.lt_or_ge i l.length with h' | h'
  · exact h'
  · rw [List.getElem?_eq_none h'] at h; cases h
theorem idx_lt {sz i j n : Nat} (hi : i < n) (hj : j < sz) : i * sz + j < n * sz := by
  have : (i + 1) * sz ≤ n * sz := Nat.mul_le_mul_right _ hi
  rw [Nat.succ_mul] at this
  omega

theorem LW.append {sz : Nat} {es fs : List SV} {vs us : List Value} (h1 : LW c h w sz es vs) (h2 : LW c h w sz fs us) : LW c h w sz (es ++ fs) (vs ++ us) := by
  refine ⟨by rw [List.length_append, List.length_append, h1.1, h2.1, Nat.add_mul], fun v hv => ?_, fun i j e v x he hv hx => ?_⟩
  · rcases List.mem_append.1 hv with hv | hv
    · exact h1.2.1 v hv
    · exact h2.2.1 v hv
  · have hj : j < sz := by
      have hlen : e.cells.length = sz := by
        rcases List.mem_append.1 (List.mem_of_getElem? he) with hm | hm
        · exact h1.2.1 e hm
        · exact h2.2.1 e hm
      rw [← hlen]; exact getq_lt hv
    rw [List.getElem?_append] at he hx
    by_cases hi : i < es.length
    · rw [if_pos hi] at he
      rw [if_pos (by rw [h1.1]; exact idx_lt hi hj)] at hx
      exact h1.2.2 i j e v x he hv hx
    · rw [if_neg hi] at he
      have hge : es.length * sz ≤ i * sz := Nat.mul_le_mul_right _ (Nat.le_of_not_lt hi)
      rw [if_neg (by rw [h1.1]; omega)] at hx
      refine h2.2.2 (i - es.length) j e v x he hv ?_
      rw [← hx, h1.1, Nat.sub_mul]
      congr 1
      omega

theorem LW.one {sz : Nat} {xs : List SV} {news : List Value} (hl : LW c h w sz xs news) (h1 : allOnes xs = true) : ∀ u ∈ news, u.oneCell' = true := by
  intro u hu
  obtain ⟨p, hp⟩ := List.mem_iff_getElem?.1 hu
  have hlt := getq_lt hp
  rw [hl.1] at hlt
  have hsz : 0 < sz := by
    rcases Nat.eq_zero_or_pos sz with h0 | h0
    · subst h0; omega
    · exact h0
  have hi : p / sz < xs.length := (Nat.div_lt_iff_lt_mul hsz).2 hlt
  have he : xs[p / sz]? = some xs[p / sz] := List.getElem?_eq_getElem hi
  have hmem := List.getElem_mem hi
  have hj : p % sz < xs[p / sz].cells.length := by rw [hl.2.1 _ hmem]; exact Nat.mod_lt _ hsz
  have hv : xs[p / sz].cells[p % sz]? = some xs[p / sz].cells[p % sz] := List.getElem?_eq_getElem hj
  have hpe : p / sz * sz + p % sz = p := by rw [Nat.mul_comm]; exact Nat.div_add_mod p sz
  refine (hl.2.2 (p / sz) (p % sz) _ _ u he hv (by rw [hpe]; exact hp)).one (allOne_mem ?_ _ (List.getElem_mem hj))
  have key : ∀ {l : List SV}, allOnes l = true → ∀ v ∈ l, allOne v.cells = true := by
    intro l
    induction l with
    | nil => intro _ v hv; cases hv
    | cons x r ih =>
      intro hall v hv
      simp only [allOnes, Bool.and_eq_true] at hall
      rcases List.mem_cons.1 hv with rfl | hv
      · exact hall.1
      · exact ih hall.2 v hv
  exact key h1 _ hmem

/-- A stretch of a named row. -/
theorem row_cells (hr : Rep c h w) {i g sz : Nat} {elems : List SV} {sk : Sk} (ho : h.obj i = some (.vec g sz elems sk)) {off len : Nat} (hle : off + len ≤ elems.length) :
    ∃ vals, LW c h w sz ((elems.drop off).take len) vals ∧ vals.length = len * sz ∧ ∀ j u, vals[j]? = some u → w.cell? ((⟨c.β i, off * sz, none⟩ : Addr).add j) = some u := by
  cases hr.obj i _ ho with
  | vec _ _ _ _ C ty fz hw hleC heq hty hc hf hcell =>
    have e1 : (off + len) * sz ≤ elems.length * sz := Nat.mul_le_mul_right _ hle
    rw [Nat.add_mul] at e1
    have hlen : ((elems.drop off).take len).length = len := by simp; omega
    have hvl : ((C.toList.drop (off * sz)).take (len * sz)).length = len * sz := by simp; omega
    refine ⟨(C.toList.drop (off * sz)).take (len * sz), ⟨by rw [hlen, hvl], fun v hv => hc v (List.mem_of_mem_drop (List.mem_of_mem_take hv)), fun p j e v x he hv hx => ?_⟩, hvl, fun j u hu => ?_⟩
    · have hp : p < len := by have := getq_lt he; omega
      rw [List.getElem?_take, if_pos hp, List.getElem?_drop] at he
      have hlx := getq_lt hx
      rw [List.getElem?_take, if_pos (by omega), List.getElem?_drop] at hx
      refine hcell (off + p) j e v x he hv ?_
      rw [Nat.add_mul, Nat.add_assoc, ← Array.getElem?_toList]
      exact hx
    · have hlu := getq_lt hu
      rw [List.getElem?_take, if_pos (by omega), List.getElem?_drop, Array.getElem?_toList] at hu
      rw [add_eq]
      simp only [World.cell?, hw]
      exact hu

theorem src_bytes {tx : TypeId} (hk : (∃ e', P.underlying tx = some (.slice e')) ∨ P.underlying tx = some .string) (s : ByteArray) : Src P 1 tx (.string s) s.size (byteCells s) w :=
  ⟨hk, fun _ => rfl, firstCells_string s w, firstCells_string s w.drew, by rw [byteCells_length, Nat.mul_one], fun u hu => by
    obtain ⟨_, _, rfl⟩ := List.mem_map.1 hu
    rfl⟩

/-- What is appended. -/
theorem elemsK_src (hr : Rep c h w) {x : SV} {y : Value} (hv : VR c h w x y) {sz : Nat} {K : List SV → Prop} (hp : elemsK h sz x K) {tx : TypeId} (hk : (∃ e', P.underlying tx = some (.slice e')) ∨ P.underlying tx = some .string) :
    ∃ xs news, K xs ∧ LW c h w sz xs news ∧ ((∀ u ∈ news, u.oneCell' = true) → Src P sz tx y xs.length news w) ∧ (∀ u, y = .string u → sz = 1 ∧ news = byteCells u) := by
  unfold elemsK at hp
  have hslice : ∀ (ad : Addr) (n cc : Nat) (xs : List SV) (news : List Value), y = .slice (some ad) n cc → xs.length = n → LW c h w sz xs news → (∀ j u, news[j]? = some u → w.cell? (ad.add j) = some u) →
      ((∀ u ∈ news, u.oneCell' = true) → Src P sz tx y xs.length news w) := by
    intro ad n cc xs news hy hn hl hcell h1
    subst hy; subst hn
    exact ⟨hk, fun _ => rfl, run_firstCells_some w sz _ ad _ cc news hl.1 hcell, run_firstCells_some w.drew sz _ ad _ cc news hl.1 (by simpa using hcell), hl.1, h1⟩
  have hnone : LW c h w sz [] [] := ⟨by simp, fun v hv => by simp at hv, fun i j e v x he => by simp at he⟩
  have hzero : ∀ (ad : Option Addr) (cc : Nat), y = .slice ad 0 cc → ((∀ u ∈ ([] : List Value), u.oneCell' = true) → Src P sz tx y ([] : List SV).length [] w) := by
    intro ad cc hy h1
    cases ad with
    | none =>
      subst hy
      exact ⟨hk, fun _ => rfl, run_firstCells_none w sz 0 0 cc, run_firstCells_none w.drew sz 0 0 cc, by simp, h1⟩
    | some ad => exact hslice ad 0 cc [] [] hy rfl hnone (fun j u hu => by simp at hu) h1
  split at hp
  · have hy := hv.nils_inv
    exact ⟨[], [], hp, hnone, hzero none 0 hy, fun u hu => by rw [hy] at hu; cases hu⟩
  · rename_i s
    replace hp := asr_iff.1 hp
    obtain ⟨hsz, hp⟩ := hp
    have hsz := Nat.eq_of_beq_eq_true hsz
    subst hsz
    rw [strK_eq] at hp
    have hy := hv.str_inv
    refine ⟨_, byteCells ⟨s.toArray⟩, hp, ⟨by simp [byteCells], fun v hv => ?_, fun i j e v x he hv hx => ?_⟩, fun h1 => ?_, fun u hu => ⟨rfl, by rw [hy] at hu; cases hu; rfl⟩⟩
    · obtain ⟨b, _, rfl⟩ := List.mem_map.1 hv; rfl
    · rw [List.getElem?_map] at he
      cases hb : s[i]? with
      | none => rw [hb] at he; cases he
      | some b =>
        rw [hb] at he
        simp only [Option.map_some, Option.some.injEq] at he
        subst he
        cases j with
        | zero =>
          simp only [SV.cells, List.getElem?_cons_zero, Option.some.injEq] at hv
          subst hv
          simp only [byteCells, Nat.mul_one, Nat.add_zero, List.getElem?_map, hb, Option.map_some, Option.some.injEq] at hx
          subst hx
          exact .int
        | succ j => simp [SV.cells] at hv
    · have hs := src_bytes (P := P) (w := w) hk ⟨s.toArray⟩
      rw [hy]
      have e1 : (s.map fun b => SV.int .u8 b.toNat).length = (⟨s.toArray⟩ : ByteArray).size := by simp [ByteArray.size]
      rw [e1]
      exact hs
  · rename_i sz' n get
    replace hp := asr_iff.1 hp
    obtain ⟨hsz, hp⟩ := hp
    have hsz := Nat.eq_of_beq_eq_true hsz
    subst hsz
    rw [rangeK_eq] at hp
    obtain ⟨ad, cap, hy, hnc, hor⟩ := hv.lst_inv
    rcases hor with rfl | ⟨b, off, C, ty, fz, rfl, hb, hw, hn, hc, hcell⟩
    · exact ⟨_, [], hp, hnone, hzero ad cap hy, fun u hu => by rw [hy] at hu; cases hu⟩
    · have hvl : ((C.toList.drop off).take (n * sz')).length = n * sz' := by simp; omega
      have hgl : ∀ (p : Nat) (e : SV), ((List.range' 0 n).map get)[p]? = some e → p < n ∧ e = get p := by
        intro p e he
        rw [List.getElem?_map] at he
        have hp' : p < n := by
          rcases Nat.lt_or_ge p n with h | h
          · exact h
          · rw [List.getElem?_eq_none (by simpa using h)] at he; cases he
        rw [List.getElem?_range' hp'] at he
        simp at he
        exact ⟨hp', he.symm⟩
      have hL : LW c h w sz' ((List.range' 0 n).map get) ((C.toList.drop off).take (n * sz')) := by
        refine ⟨by rw [hvl]; simp, fun v hv => ?_, fun p j e v x he hv hx => ?_⟩
        · obtain ⟨p, hp⟩ := List.mem_iff_getElem?.1 hv
          obtain ⟨h1, rfl⟩ := hgl p v hp
          exact hc p h1
        · obtain ⟨h1, rfl⟩ := hgl p e he
          have hlx := getq_lt hx
          rw [List.getElem?_take, if_pos (by omega), List.getElem?_drop, Array.getElem?_toList] at hx
          exact .pure (hcell p j v x h1 hv (by rw [Nat.add_assoc]; exact hx))
      refine ⟨_, _, hp, hL, hslice _ _ _ _ _ hy (by simp) hL fun j u hu => ?_, fun u hu => by rw [hy] at hu; cases hu⟩
      have hlu := getq_lt hu
      rw [List.getElem?_take, if_pos (by omega), List.getElem?_drop, Array.getElem?_toList] at hu
      rw [add_eq]
      simp only [World.cell?, hw]
      exact hu
  · rename_i i g sz' off len cap
    replace hp := asr_iff.1 hp
    obtain ⟨hsz, hp⟩ := hp
    have hsz := Nat.eq_of_beq_eq_true hsz
    subst hsz
    obtain ⟨n, l⟩ := h
    simp only [lookO_eq] at hp
    split at hp
    · rename_i ob hob
      split at hp
      · rename_i g' szo elems sk
        replace hp := asr_iff.1 hp
        obtain ⟨hg, hp⟩ := hp
        have hg := Nat.eq_of_beq_eq_true hg
        obtain ⟨hle, hp⟩ := dropN_iff.1 hp
        obtain ⟨hle2, hp⟩ := takeN_iff.1 hp
        simp only [List.length_drop] at hle2
        obtain ⟨hsz', ad, cc, hy, hlc, _, hor⟩ := hv.sl_inv (o := .vec g' szo elems sk) hob hg
        simp only [AObj.sz] at hsz'
        subst hsz'
        rcases hor with h0 | ⟨rfl, ty, m, hsh, hle'⟩
        · have hl0 : len = 0 := by omega
          subst hl0
          simp only [List.take_zero] at hp
          exact ⟨[], [], hp, hnone, hzero _ cc hy, fun u hu => by rw [hy] at hu; cases hu⟩
        · obtain ⟨vals, hL, hvl, hcl⟩ := row_cells hr (i := i) (g := g') (sz := szo) (elems := elems) (sk := sk) hob (off := off) (len := len) (by omega)
          exact ⟨_, vals, hp, hL, hslice _ _ _ _ _ hy (by simp; omega) hL hcl, fun u hu => by rw [hy] at hu; cases hu⟩
      · exact hp.elim
    · exact hp.elim
  · exact hp.elim
end
end Ab
namespace Ab
set_option linter.unusedVariables false
set_option linter.unusedSimpArgs false
open Go
section
variable {P : Program} {Γ : CallR} {c : Cx} {h : Heap} {w : World} {e : Env} {a : Act} {o : Oper} {k kp : SV → Heap → Prop}

theorem drew_ext : Ext c h w c h w.drew :=
  ⟨rfl, rfl, rfl, Nat.le_refl _, fun _ _ _ => rfl, fun _ _ => rfl, fun _ h => h, fun _ h => .inl h, Nat.le_refl _, fun _ o' _ h => ⟨o', h, Nat.le_refl _, rfl, fun _ => rfl⟩, fun _ o' h => .inr ⟨o', h, rfl⟩⟩
theorem drew_rep (hr : Rep c h w) : Rep c h w.drew :=
  ⟨hr.lt, fun i o ho => (hr.obj i o ho).mono hr drew_ext rfl, hr.inj, hr.apart, hr.im, hr.globx drew_ext⟩

/-- A named row written in place; its names may grow old by it. -/
theorem ext_put2 {n : Nat} {l : List (Nat × AObj)} {i g g2 sz : Nat} {elems elems' : List SV} {sk sk2 : Sk} {w' : World} (ho : objL l i = some (.vec g sz elems sk)) (hg : g ≤ g2)
    (e1 : w'.os = w.os) (e2 : w'.tape = w.tape) (e3 : w'.output = w.output) (e4 : w'.heap.size = w.heap.size) (e5 : ∀ b', b' ≠ c.β i → w'.heap[b']? = w.heap[b']?) (e6 : w'.shape? (c.β i) = w.shape? (c.β i)) :
    Ext c ⟨n, l⟩ w c ⟨n, putO l i (.vec g2 sz elems' sk2)⟩ w' where
  os := e1
  tape := e2
  output := e3
  size := by omega
  frame b hb hn := e5 b (fun e => hn i _ ho e.symm)
  shape b hb := by
    by_cases h : b = c.β i
    · rw [h]; exact e6
    · simp only [World.shape?, e5 b h]
  im _ hb := hb
  im' _ hb := .inl hb
  nxt := Nat.le_refl _
  old j o' hj ho' := by
    simp only [Heap.obj, objL_put] at ho'
    by_cases h : j = i
    · subst h
      rw [if_pos rfl, ho] at ho'
      cases ho'
      exact ⟨_, ho, hg, rfl, fun _ => rfl⟩
    · rw [if_neg h] at ho'
      exact ⟨o', ho', Nat.le_refl _, rfl, fun _ => rfl⟩
  new j o' ho' := by
    simp only [Heap.obj, objL_put] at ho'
    by_cases h : j = i
    · subst h; exact .inr ⟨_, ho, rfl⟩
    · rw [if_neg h] at ho'; exact .inr ⟨o', ho', rfl⟩

theorem rep_put2 {n : Nat} {l : List (Nat × AObj)} {i g g2 sz : Nat} {elems elems' : List SV} {sk sk2 : Sk} {w' : World} {C' : Array Value} {ty : TypeId} {fz : Nat × Nat} (hr : Rep c ⟨n, l⟩ w) (ho : objL l i = some (.vec g sz elems sk))
    (hx : Ext c ⟨n, l⟩ w c ⟨n, putO l i (.vec g2 sz elems' sk2)⟩ w') (e4 : w'.heap.size = w.heap.size) (e5 : ∀ b', b' ≠ c.β i → w'.heap[b']? = w.heap[b']?) (e6 : w'.heap[c.β i]? = some (.cells C' ty fz))
    (hle : elems'.length * sz ≤ C'.size) (heq : sk2.slack = false → elems'.length * sz = C'.size) (hty : ∀ t, sk2.ty = some t → t = ty) (hc : ∀ v ∈ elems', v.cells.length = sz) (hf : ∀ k, k < C'.size → ¬ (fz.1 ≤ k ∧ k < fz.2))
    (hcell : ∀ (p j : Nat) (e v : SV) (x : Value), elems'[p]? = some e → e.cells[j]? = some v → C'[p * sz + j]? = some x → VR c ⟨n, l⟩ w v x) : Rep c ⟨n, putO l i (.vec g2 sz elems' sk2)⟩ w' := by
  have key : ∀ j o', (Heap.mk n (putO l i (.vec g2 sz elems' sk2))).obj j = some o' → (j = i ∧ o' = .vec g2 sz elems' sk2) ∨ (j ≠ i ∧ objL l j = some o') := by
    intro j o' ho'
    simp only [Heap.obj, objL_put] at ho'
    by_cases h : j = i
    · rw [if_pos h, ho] at ho'; cases ho'; exact .inl ⟨h, rfl⟩
    · rw [if_neg h] at ho'; exact .inr ⟨h, ho'⟩
  have key2 : ∀ j o', (Heap.mk n (putO l i (.vec g2 sz elems' sk2))).obj j = some o' → ∃ o'', objL l j = some o'' := by
    intro j o' ho'
    rcases key j o' ho' with ⟨rfl, _⟩ | ⟨_, h⟩
    · exact ⟨_, ho⟩
    · exact ⟨_, h⟩
  refine ⟨fun j o' ho' => ?_, fun j o' ho' => ?_, fun j j' o' p' ho' hp' he => ?_, fun j o' ho' => ?_, fun b hb => ?_, hr.globx hx⟩
  · obtain ⟨o'', h⟩ := key2 j o' ho'; exact hr.lt j o'' h
  · rcases key j o' ho' with ⟨rfl, rfl⟩ | ⟨hj, h⟩
    · exact .vec g2 sz elems' sk2 C' ty fz e6 hle heq hty hc hf fun p j' e v x h1 h2 h3 => (hcell p j' e v x h1 h2 h3).mono hr hx
    · exact (hr.obj j o' h).mono hr hx (e5 _ fun he => hj (hr.inj j i _ _ h ho he))
  · obtain ⟨o'', h⟩ := key2 j o' ho'
    obtain ⟨p'', h'⟩ := key2 j' p' hp'
    exact hr.inj j j' _ _ h h' he
  · obtain ⟨o'', h⟩ := key2 j o' ho'; exact hr.apart j o'' h
  · rw [e4]; exact hr.im b hb

/-- A named row that moved: its name means the new block from now on. -/
theorem ext_move {n : Nat} {l : List (Nat × AObj)} {i g sz : Nat} {elems elems' : List SV} {sk sk2 : Sk} (ho : objL l i = some (.vec g sz elems sk)) (cb : Obj) :
    Ext c ⟨n, l⟩ w (c.push i w.heap.size) ⟨n, putO l i (.vec (g + 1) sz elems' sk2)⟩ (w.alloc cb) where
  os := rfl
  tape := rfl
  output := rfl
  size := by rw [heap_size]; omega
  frame b hb _ := heap_push w cb b hb
  shape b hb := by simp only [World.shape?, heap_push w cb b hb]
  im _ hb := hb
  im' _ hb := .inl hb
  nxt := Nat.le_refl _
  old j o' hj ho' := by
    simp only [Heap.obj, objL_put] at ho'
    by_cases h : j = i
    · subst h
      rw [if_pos rfl, ho] at ho'
      cases ho'
      exact ⟨_, ho, Nat.le_succ _, rfl, fun e => by simp [AObj.gen] at e⟩
    · rw [if_neg h] at ho'
      exact ⟨o', ho', Nat.le_refl _, rfl, fun _ => by simp [Cx.push, h]⟩
  new j o' ho' := by
    simp only [Heap.obj, objL_put] at ho'
    by_cases h : j = i
    · subst h; left; simp [Cx.push]
    · rw [if_neg h] at ho'; exact .inr ⟨o', ho', by simp [Cx.push, h]⟩

theorem rep_move {n : Nat} {l : List (Nat × AObj)} {i g sz : Nat} {elems elems' : List SV} {sk : Sk} {C' : Array Value} {ty : TypeId} (hr : Rep c ⟨n, l⟩ w) (ho : objL l i = some (.vec g sz elems sk))
    {tyo : Option TypeId} (hty : ∀ t, tyo = some t → t = ty) (hle : elems'.length * sz ≤ C'.size) (hc : ∀ v ∈ elems', v.cells.length = sz)
    (hcell : ∀ (p j : Nat) (e v : SV) (x : Value), elems'[p]? = some e → e.cells[j]? = some v → C'[p * sz + j]? = some x → VR c ⟨n, l⟩ w v x) :
    Rep (c.push i w.heap.size) ⟨n, putO l i (.vec (g + 1) sz elems' ⟨true, tyo⟩)⟩ (w.alloc (.cells C' ty)) := by
  have hx : Ext c ⟨n, l⟩ w (c.push i w.heap.size) ⟨n, putO l i (.vec (g + 1) sz elems' ⟨true, tyo⟩)⟩ (w.alloc (.cells C' ty)) := ext_move ho _
  have key : ∀ j o', (Heap.mk n (putO l i (.vec (g + 1) sz elems' ⟨true, tyo⟩))).obj j = some o' → (j = i ∧ o' = .vec (g + 1) sz elems' ⟨true, tyo⟩) ∨ (j ≠ i ∧ objL l j = some o') := by
    intro j o' ho'
    simp only [Heap.obj, objL_put] at ho'
    by_cases h : j = i
    · rw [if_pos h, ho] at ho'; cases ho'; exact .inl ⟨h, rfl⟩
    · rw [if_neg h] at ho'; exact .inr ⟨h, ho'⟩
  have hβ : ∀ j, j ≠ i → (c.push i w.heap.size).β j = c.β j := fun j hj => by simp [Cx.push, hj]
  have hβi : (c.push i w.heap.size).β i = w.heap.size := by simp [Cx.push]
  refine ⟨fun j o' ho' => ?_, fun j o' ho' => ?_, fun j j' o' p' ho' hp' he => ?_, fun j o' ho' => ?_, fun b hb => ?_, hr.globx hx⟩
  · rcases key j o' ho' with ⟨rfl, _⟩ | ⟨_, h⟩
    · exact hr.lt _ _ ho
    · exact hr.lt j _ h
  · rcases key j o' ho' with ⟨rfl, rfl⟩ | ⟨hj, h⟩
    · rw [hβi]
      exact .vec (g + 1) sz elems' ⟨true, tyo⟩ C' ty (0, 0) (heap_new _ _) hle (fun e => by cases e) hty hc (by simp) fun p j' e v x h1 h2 h3 => (hcell p j' e v x h1 h2 h3).mono hr hx
    · rw [hβ j hj]
      exact (hr.obj j o' h).mono hr hx (heap_push w _ _ (hr.obj j o' h).lt)
  · rcases key j o' ho' with ⟨rfl, _⟩ | ⟨hj, h⟩ <;> rcases key j' p' hp' with ⟨rfl, _⟩ | ⟨hj', h'⟩
    · rfl
    · rw [hβi, hβ j' hj'] at he
      have := (hr.obj j' p' h').lt
      omega
    · rw [hβi, hβ j hj] at he
      have := (hr.obj j o' h).lt
      omega
    · rw [hβ j hj, hβ j' hj'] at he
      exact hr.inj j j' _ _ h h' he
  · rcases key j o' ho' with ⟨rfl, _⟩ | ⟨hj, h⟩
    · rw [hβi]
      intro hb
      have : w.heap.size < w.heap.size := hr.im _ hb
      omega
    · rw [hβ j hj]; exact hr.apart j o' h
  · rw [heap_size]
    have : b < w.heap.size := hr.im b hb
    omega

theorem sl_at {n : Nat} {l : List (Nat × AObj)} {i g sz len cc : Nat} {elems : List SV} {sk : Sk} {w' : World} {C : Array Value} {ty : TypeId} {fz : Nat × Nat} {cap : Option Nat} {off : Nat} (hi : i < n) (ho : objL l i = some (.vec g sz elems sk))
    (hb : w'.heap[c.β i]? = some (.cells C ty fz)) (hlc : len ≤ cc) (hcap : ∀ k, cap = some k → cc = k) (hC : off * sz + cc * sz ≤ C.size) (hfu : cap = none → off * sz + cc * sz = C.size) : VR c ⟨n, l⟩ w' (.sl i g sz off len cap) (.slice (some ⟨c.β i, off * sz, none⟩) len cc) :=
  .sl _ _ _ _ _ _ _ ⟨_, _, _, rfl⟩ hi (fun o' ho' => by
    have ho'' : objL l i = some o' := ho'
    rw [ho] at ho''; cases ho''; exact Nat.le_refl _) fun o' ho' _ => by
    have ho'' : objL l i = some o' := ho'
    rw [ho] at ho''; cases ho''
    exact ⟨rfl, _, _, rfl, hlc, hcap, .inr ⟨rfl, ty, C.size, by simp [World.shape?, hb], hC⟩, fun h => ⟨ty, C.size, by simp [World.shape?, hb], hfu h⟩⟩

theorem objL_putS (l : List (Nat × AObj)) (i : Nat) (o o' : AObj) (ho : objL l i = some o) : objL (putO l i o') i = some o' := by
  rw [objL_put, if_pos rfl, ho]; rfl

theorem cells_zero {z : Value} {sz : Nat} (hk : (ofVal 4 z).known = true) (hs : (ofVal 4 z).cells.length = sz) : z.cells.size = sz := by
  have hz : VR ⟨fun _ => 0, fun _ => False⟩ ⟨0, []⟩ default (ofVal 4 z) z := .pure (ofVal_vp 4 z)
  exact (vcells hz (fun hh => by rw [hh] at hk; cases hk)).1.trans hs

/-- The cells of a row that grew. -/
theorem grown_cells {sz : Nat} {elems : List SV} {vals : List Value} (hl : LW c h w sz elems vals) (rest : Array Value) : elems.length * sz ≤ (vals.toArray ++ rest).size ∧ (∀ v ∈ elems, v.cells.length = sz) ∧
    ∀ (p j : Nat) (e v : SV) (x : Value), elems[p]? = some e → e.cells[j]? = some v → (vals.toArray ++ rest)[p * sz + j]? = some x → VR c h w v x := by
  refine ⟨by simp [hl.1], hl.2.1, fun p j e v x he hv hx => ?_⟩
  have hj : j < sz := by rw [← hl.2.1 e (List.mem_of_getElem? he)]; exact getq_lt hv
  have hlt : p * sz + j < vals.length := by rw [hl.1]; exact idx_lt (getq_lt he) hj
  rw [Array.getElem?_append, if_pos (by simpa using hlt)] at hx
  exact hl.2.2 p j e v x he hv (by simpa using hx)

theorem joinTy_some {a : Option TypeId} {u t : TypeId} (h : joinTy a u = some t) : a = some t ∧ t = u := by
  unfold joinTy at h
  split at h
  · rename_i t'
    rcases beq_cases t' u with ⟨h1, h2⟩ | ⟨h1, _⟩
    · rw [h1] at h
      have h' : some u = some t := h
      cases h'
      exact ⟨by rw [h2], rfl⟩
    · rw [h1] at h; cases h
  · cases h

theorem does_append (hr : Rep c h w) (he : ER c h w e a.tmps) {cl : Call} {x y : Operand} {t u el : TypeId} {i : TypeInfo} {z : Value} (ho : o.op = .call cl) (hcl : cl.callee = .builtin .append) (hargs : cl.args.toList = [x, y]) (htys : cl.argTypes.toList = [t, u])
    (ht : P.underlying t = some (.slice el)) (hu : (∃ e', P.underlying u = some (.slice e')) ∨ P.underlying u = some .string) (hi : P.info? el = some i) (hz : i.zero = some z) (hs : (ofVal 4 z).cells.length = i.size) (hk : (ofVal 4 z).known = true)
    (hp : aop P Γ (.append el i.size i.bytes (cOpd x) (cOpd y)) e h k kp) : Does P c h w a o k := by
  simp only [aop, evK_eq, appendK] at hp
  have hx := he.ev x
  have hy := he.ev y
  generalize (cOpd x).ev e = sx at hp hx
  have hsrc0 := elemsK_src hr hy hp hu
  clear hp
  obtain ⟨xs, news, hp, hL, hsrc, _⟩ := hsrc0
  have hzs : z.cells.size = i.size := cells_zero hk hs
  have hargs' : cl.args = #[x, y] := by simpa using congrArg List.toArray hargs
  have htys' : cl.argTypes = #[t, u] := by simpa using congrArg List.toArray htys
  have hrun : ∀ v' w', (Builtin.append_ #[t, u] o.type #[a.eval x, a.eval y]).run P w = .ok v' w' → (execOp a.eval o).run P w = .ok (.value v') w' := by
    intro v' w' hrun
    simp [execOp, ho, resolve, hcl, hargs', htys', invoke, builtin, hrun]
  split at hp
  · -- nothing is appended
    simp only [LW, List.length_nil, Nat.zero_mul] at hL
    obtain ⟨hl0, _, _⟩ := hL
    have hn0 : news = [] := List.eq_nil_of_length_eq_zero hl0
    subst hn0
    have hs0 := hsrc (fun u hu => by cases hu)
    simp only [List.length_nil] at hs0
    have hroom : ∀ base sLen sCap, a.eval x = .slice base sLen sCap → sLen ≤ sCap → (execOp a.eval o).run P w = .ok (.value (.slice base sLen sCap)) w := by
      intro base sLen sCap hxe hle
      refine hrun _ _ ?_
      rw [hxe]
      rcases hs0.kind with ⟨e', hk⟩ | hk <;> cases base <;> simp [Builtin.append_, run_underlying ht, run_underlying hk, Go.sizeOf, typeInfo, hi, hs0.len, hle, hs0.cells, storeCells]
    split at hp
    · exact (Sees.of _ _ hp (hroom _ _ _ hx.nils_inv (Nat.le_refl _)) (.pure .nils)).does hr
    · obtain ⟨hp, sz', elems, sk, hob⟩ := liveK_inv hp
      obtain ⟨_, ad, cc, hxe, hlc, _, _⟩ := hx.sl_inv hob rfl
      exact (Sees.of _ _ hp (hroom _ _ _ hxe hlc) (hxe ▸ hx)).does hr
    · obtain ⟨ad, cap, hxe, hlc, _⟩ := hx.lst_inv
      exact (Sees.of _ _ hp (hroom _ _ _ hxe hlc) (hxe ▸ hx)).does hr
    · exact hp.elim
  · rename_i x0 xr
    generalize hxs : x0 :: xr = xs at hp hL hsrc
    have hpos : 0 < xs.length := by rw [← hxs]; simp
    replace hp := asr_iff.1 hp
    obtain ⟨hone, hp⟩ := hp
    have hs1 := hsrc (hL.one hone)
    -- a new row
    have grow : ∀ (base : Option Addr) (sLen sCap : Nat) (els : List SV) (olds : List Value), a.eval x = .slice base sLen sCap → LW c h w i.size els olds → els.length = sLen →
        (Builtin.firstCells i.size sLen (.slice base sLen sCap)).run P w.drew = .ok olds.toArray w.drew → sCap < sLen + xs.length → (sLen + xs.length ≤ 9223372036854775807 ∧ (sLen + xs.length) * i.bytes ≤ 140737488355328) →
        ∃ rest ncap, (execOp a.eval o).run P w = .ok (.value (.slice (some ⟨w.heap.size, 0, none⟩) (sLen + xs.length) ncap)) (w.drew.alloc (.cells ((olds ++ news).toArray ++ rest) el)) ∧ sLen + xs.length ≤ ncap ∧ ncap * i.size = ((olds ++ news).toArray ++ rest).size := by
      intro base sLen sCap els olds hxe hLo hels hold hg ⟨h63, hbytes⟩
      refine ⟨Builtin.zeroCells z.cells (grownCap w (sLen + xs.length) sCap el - (sLen + xs.length)), grownCap w (sLen + xs.length) sCap el, hrun _ _ ?_, grownCap_ge w _ _ _, ?_⟩
      · rw [hxe]
        exact run_append_grow_src (P := P) w t u o.type el i z ht hi hz base sLen sCap olds hold (a.eval y) xs.length news hs1 hg (by omega) (growslice_fits hg hbytes)
      · have hge := grownCap_ge w (sLen + xs.length) sCap el
        simp only [Array.size_append, List.size_toArray, List.length_append, hLo.1, hL.1, hels, size_zeroCells, hzs]
        rw [← Nat.add_mul, ← Nat.add_mul]
        exact congrArg (· * i.size) (by omega)
    have fresh : ∀ (base : Option Addr) (sLen sCap : Nat) (els : List SV) (olds : List Value) (K : SV → Heap → Prop), a.eval x = .slice base sLen sCap → LW c h w i.size els olds → els.length = sLen →
        (Builtin.firstCells i.size sLen (.slice base sLen sCap)).run P w.drew = .ok olds.toArray w.drew → sCap < sLen + xs.length → (sLen + xs.length ≤ 9223372036854775807 ∧ (sLen + xs.length) * i.bytes ≤ 140737488355328) →
        K (.sl h.nxt 0 i.size 0 (sLen + xs.length) none) ⟨h.nxt + 1, (h.nxt, .vec 0 i.size (els ++ xs) ⟨true, some el⟩) :: h.l⟩ → Does P c h w a o K := by
      intro base sLen sCap els olds K hxe hLo hels hold hg hroom hK
      obtain ⟨rest, ncap, hr1, hn1, hn2⟩ := grow base sLen sCap els olds hxe hLo hels hold hg hroom
      obtain ⟨n, l⟩ := h
      have hall := grown_cells (hLo.append hL) rest
      have hrd := drew_rep hr
      have hdx : Ext c ⟨n, l⟩ w c ⟨n, l⟩ w.drew := drew_ext
      refine ⟨_, _, _, c.push n w.heap.size, _, hK, .inl hr1, rep_push hrd _ _ (.vec 0 i.size _ ⟨true, some el⟩ _ el (0, 0) (heap_new _ _) hall.1 (fun e => by cases e) (fun _ h => (Option.some.inj h).symm) hall.2.1 (by simp) fun p j e v x' h1 h2 h3 => ((hall.2.2 p j e v x' h1 h2 h3).mono hr hdx).mono hrd (ext_push hrd _ _)),
        hdx.trans hr (ext_push hrd _ _), ?_⟩
      exact .sl _ _ _ _ _ _ _ ⟨_, _, _, rfl⟩ (Nat.lt_succ_self _) (fun _ _ => Nat.zero_le _) fun o' ho' _ => by
        rw [obj_push, if_pos rfl] at ho'; cases ho'
        have hsh : (w.drew.alloc (.cells ((olds ++ news).toArray ++ rest) el)).shape? ((c.push n w.heap.size).β n) = some (el, ((olds ++ news).toArray ++ rest).size) := by simp only [World.shape?, Cx.push, if_pos]; rw [show w.heap.size = w.drew.heap.size from rfl, heap_new]
        refine ⟨rfl, _, _, rfl, hn1, fun k hk => (by cases hk), .inr ⟨by simp [Cx.push], el, _, hsh, by omega⟩, fun _ => ⟨el, _, hsh, by omega⟩⟩
    split at hp
    · -- onto nil
      replace hp := asr_iff.1 hp
      obtain ⟨hroom, hp⟩ := hp
      simp only [Bool.and_eq_true, decide_eq_true_eq] at hroom
      refine fresh none 0 0 [] [] k hx.nils_inv ⟨by simp, fun v hv => by simp at hv, fun i j e v x he => by simp at he⟩ rfl (run_firstCells_none w.drew i.size 0 0 0) (by omega) (by simpa using hroom) ?_
      obtain ⟨n, l⟩ := h
      simpa using hp
    · rename_i ii g sz' off len cap
      replace hp := asr_iff.1 hp
      obtain ⟨hsz, hp⟩ := hp
      have hsz := Nat.eq_of_beq_eq_true hsz
      subst hsz
      obtain ⟨n, l⟩ := h
      simp only [lookO_eq] at hp
      split at hp
      · rename_i ob hob
        split at hp
        · rename_i g' szo elems sk
          replace hp := asr_iff.1 hp
          obtain ⟨hg, hp⟩ := hp
          have hg := Nat.eq_of_beq_eq_true hg
          subst hg
          obtain ⟨hsz', ad, cc, hxe, hlc, hcap, hor⟩ := hx.sl_inv (o := .vec g' szo elems sk) hob rfl
          simp only [AObj.sz] at hsz'
          have hin : ii < n := hr.lt ii _ hob
          -- the elements that are there
          have olds : off + len ≤ elems.length → ∃ vals, LW c ⟨n, l⟩ w i.size ((elems.drop off).take len) vals ∧ ((elems.drop off).take len).length = len ∧ (Builtin.firstCells i.size len (.slice (some ad) len cc)).run P w.drew = .ok vals.toArray w.drew := by
            intro hle
            have htl : ((elems.drop off).take len).length = len := by simp; omega
            rcases hor with h0 | ⟨rfl, ty, m, hsh, hle'⟩
            · have hl0 : len = 0 := by omega
              subst hl0
              refine ⟨[], ⟨by simp, fun v hv => by simp at hv, fun i j e v x he => by simp at he⟩, by simp, ?_⟩
              exact run_firstCells_some w.drew i.size 0 ad 0 cc [] (by simp) (fun j u hu => by simp at hu)
            · obtain ⟨vals, hLv, hvl, hcl⟩ := row_cells hr (i := ii) (g := g') (sz := szo) (elems := elems) (sk := sk) hob hle
              rw [hsz'] at hLv hvl hcl
              exact ⟨vals, hLv, htl, run_firstCells_some w.drew i.size len _ len cc vals hvl (by simpa using hcl)⟩
          -- in place
          have place : ∀ (g2 : Nat) (sk2 : Sk) (elems' : List SV) (cap' : Option Nat), (cap' = none → cap = none) → g' ≤ g2 → len + xs.length ≤ cc → (∀ k, cap' = some k → cc = k) → off + len ≤ elems.length → 
              (∀ p, elems'[p]? = if off + len ≤ p ∧ p < off + len + xs.length then xs[p - (off + len)]? else elems[p]?) → (sk2.slack = false → sk.slack = false ∧ elems'.length = elems.length) → (∀ t, sk2.ty = some t → sk.ty = some t) → 
              k (.sl ii g2 i.size off (len + xs.length) cap') ⟨n, putO l ii (.vec g2 szo elems' sk2)⟩ → Does P c ⟨n, l⟩ w a o k := by
            intro g2 sk2 elems' cap' hcn hgg hfit hcap' hle hel hsk hskt hK
            rcases hor with h0 | ⟨rfl, ty, m, hsh, hle'⟩
            · omega
            · cases hr.obj ii _ hob with
              | vec _ _ _ _ C ty' fz hw hleC heq hty hc hf hcell =>
                have hmC : m = C.size := by
                  simp only [World.shape?, hw, Option.some.injEq, Prod.mk.injEq] at hsh
                  exact hsh.2.symm
                have e0 : (len + xs.length) * i.size ≤ cc * i.size := Nat.mul_le_mul_right _ hfit
                rw [Nat.add_mul] at e0
                obtain ⟨w', C', hst, e1, e2, e3, e4, e5, e6, e7, e8⟩ := storeCells_run P (c.β ii) (off * i.size + len * i.size) ty' fz news 0 C w hw hf (by
                  right; rw [hL.1, ← hmC]; omega) hs1.one
                have hshape : w'.shape? (c.β ii) = w.shape? (c.β ii) := by simp only [World.shape?, e6, hw, e7]
                have hxx := ext_put2 (n := n) (elems' := elems') (sk2 := sk2) hob hgg e1 e2 e3 e4 e5 hshape
                have hlen' : elems'.length * szo ≤ C'.size := by
                  rcases Nat.lt_or_ge (off + len + xs.length) elems.length with hlt | hge
                  · have : elems'.length ≤ elems.length := by
                      rcases Nat.lt_or_ge elems.length elems'.length with hh | hh
                      · have h1 := hel elems.length
                        rw [if_neg (by omega), List.getElem?_eq_none (Nat.le_refl _)] at h1
                        rw [List.getElem?_eq_getElem hh] at h1; cases h1
                      · exact hh
                    have := Nat.mul_le_mul_right szo this
                    rw [e7]; omega
                  · have : elems'.length ≤ off + len + xs.length := by
                      rcases Nat.lt_or_ge (off + len + xs.length) elems'.length with hh | hh
                      · have h1 := hel (off + len + xs.length)
                        rw [if_neg (by omega), List.getElem?_eq_none hge] at h1
                        rw [List.getElem?_eq_getElem hh] at h1; cases h1
                      · exact hh
                    have := Nat.mul_le_mul_right szo this
                    rw [hsz', Nat.add_mul, Nat.add_mul] at this
                    rw [e7, ← hmC, hsz']; omega
                have hmem' : ∀ v ∈ elems', v.cells.length = szo := by
                  intro v hv
                  obtain ⟨p, hp⟩ := List.mem_iff_getElem?.1 hv
                  rw [hel] at hp
                  split at hp
                  · rw [hsz']; exact hL.2.1 v (List.mem_of_getElem? hp)
                  · exact hc v (List.mem_of_getElem? hp)
                refine ⟨_, .slice (some ⟨c.β ii, off * i.size, none⟩) (len + xs.length) cc, _, c, w', hK, .inl (hrun _ _ ?_), rep_put2 hr hob hxx e4 e5 e6 hlen' (fun hsk2 => ?_) (fun t ht => hty t (hskt t ht)) hmem' (by rw [e7]; exact hf) (fun p j ee v z' hpe hv hz' => ?_), hxx, ?_⟩
                · rw [hxe]
                  rcases hs1.kind with ⟨e', hk⟩ | hk <;> simp [Builtin.append_, run_underlying ht, run_underlying hk, Go.sizeOf, typeInfo, hi, hs1.len, hfit, hs1.cells, add_eq, hst]
                · obtain ⟨h1, h2⟩ := hsk hsk2
                  rw [h2, e7]; exact heq h1
                · have hj : j < szo := by rw [← hmem' ee (List.mem_of_getElem? hpe)]; exact getq_lt hv
                  rw [e8] at hz'
                  simp only [Nat.add_zero] at hz'
                  rw [hel] at hpe
                  by_cases hin2 : off + len ≤ p ∧ p < off + len + xs.length
                  · rw [if_pos hin2] at hpe
                    have e9 : p * szo = off * i.size + len * i.size + (p - (off + len)) * szo := by
                      rw [hsz', ← Nat.add_mul, ← Nat.add_mul]; congr 1; omega
                    have hlt2 := idx_lt (sz := szo) (getq_lt hpe) hj
                    rw [← hsz'] at hL
                    rw [if_pos (by rw [hL.1]; omega)] at hz'
                    refine hL.2.2 _ j ee v z' hpe hv ?_
                    rw [← hz']
                    congr 1
                    omega
                  · rw [if_neg hin2] at hpe
                    have hout : ¬ (off * i.size + len * i.size ≤ p * szo + j ∧ p * szo + j < off * i.size + len * i.size + news.length) := by
                      intro ⟨q1, q2⟩
                      rw [hL.1, ← hsz', ← Nat.add_mul, ← Nat.add_mul] at q2
                      rw [← hsz', ← Nat.add_mul] at q1
                      rcases Nat.lt_or_ge p (off + len) with hlt | hge
                      · have := idx_lt (sz := szo) hlt hj
                        omega
                      · have : off + len + xs.length ≤ p := by omega
                        have := Nat.mul_le_mul_right szo this
                        omega
                    rw [if_neg hout] at hz'
                    exact hcell p j ee v z' hpe hv hz'
                · have := sl_at (c := c) (off := off) (n := n) (w' := w') (cc := cc) (len := len + xs.length) (cap := cap') hin (objL_putS l ii _ (.vec g2 szo elems' sk2) hob) e6 hfit hcap' (by rw [e7, ← hmC, hsz']; exact hle') (fun hc => by
                    have hcap0 := hcn hc
                    subst hcap0
                    obtain ⟨ty2, m2, hs2, he2⟩ := hx.sl_full (o := .vec g' szo elems sk) hob rfl hxe
                    rw [hsh] at hs2
                    cases hs2
                    rw [e7, ← hmC, hsz']; exact he2)
                  rw [hsz'] at this
                  rw [← hsz'] at this ⊢
                  exact this
          split at hp
          · -- the capacity is known
            rename_i cp
            have hcc := hcap cp rfl
            rcases brE hp with ⟨hb, hp⟩ | ⟨hb, hp⟩
            · have hfit := Nat.le_of_ble_eq_true hb
              obtain ⟨hrn, hp⟩ := setRun_iff.1 hp
              rw [setO_eq] at hp
              have hrn : off + len + xs.length ≤ elems.length := by
                rcases hrn with h | h
                · rw [h] at hpos; simp at hpos
                · exact h
              refine place g' sk _ (some cp) (fun h => by cases h) (Nat.le_refl _) (by omega) (fun k hk => by cases hk; exact hcc) (by omega) (fun p => setAll_get _ _ _ _ hrn) (fun hs => ⟨hs, setAll_length _ _ _⟩) (fun _ h => h) hp
            · have hfit : ¬ (len + xs.length ≤ cp) := fun hle => by
                rw [Nat.ble_eq_true_of_le hle] at hb; cases hb
              replace hp := asr_iff.1 hp
              obtain ⟨hroom, hp⟩ := hp
              simp only [Bool.and_eq_true, decide_eq_true_eq] at hroom
              obtain ⟨hl1, hp⟩ := dropN_iff.1 hp
              obtain ⟨hl2, hp⟩ := takeN_iff.1 hp
              rw [appL_eq] at hp
              simp only [List.length_drop] at hl2
              obtain ⟨vals, hLv, htl, hold⟩ := olds (by omega)
              exact fresh _ len cc _ vals k hxe hLv htl hold (by omega) hroom hp
          · -- it is not
            have hbr := brE hp
            clear hp
            rcases hbr with ⟨hb, hp⟩ | ⟨_, hp⟩
            · simp only [Bool.and_eq_true] at hb
              have hs0 : 0 < i.size := Nat.lt_of_succ_le (Nat.le_of_ble_eq_true hb.1)
              have hle := Nat.le_of_ble_eq_true hb.2
              obtain ⟨_, hp⟩ := setRun_iff.1 hp
              rw [setO_eq] at hp
              obtain ⟨ty2, m2, hs2, he2⟩ := hx.sl_full (o := .vec g' szo elems sk) hob rfl hxe
              have hfit : len + xs.length ≤ cc := by
                cases hr.obj ii _ hob with
                | vec _ _ _ _ C ty' fz hw hleC _ _ _ _ _ =>
                  have hm2 : m2 = C.size := by
                    simp only [World.shape?, hw, Option.some.injEq, Prod.mk.injEq] at hs2
                    exact hs2.2.symm
                  have h1 : (off + (len + xs.length)) * i.size ≤ (off + cc) * i.size := by
                    rw [Nat.add_mul off cc, he2, hm2]
                    refine Nat.le_trans (Nat.mul_le_mul_right _ ?_) (hsz' ▸ hleC)
                    omega
                  have h2 := Nat.le_of_mul_le_mul_right h1 hs0
                  omega
              exact place g' sk _ none (fun _ => rfl) (Nat.le_refl _) hfit (fun k hk => by cases hk) (by omega) (fun p => setAll_get _ _ _ _ hle) (fun hs => ⟨hs, setAll_length _ _ _⟩) (fun _ h => h) hp
            replace hp := asr_iff.1 hp
            obtain ⟨hcond, hp⟩ := hp
            simp only [Bool.and_eq_true, decide_eq_true_eq] at hcond
            obtain ⟨⟨hoff, hlen⟩, hroom⟩ := hcond
            have hoff := Nat.eq_of_beq_eq_true hoff
            have hlen := Nat.eq_of_beq_eq_true hlen
            subst hoff
            rw [appL_eq, setO_eq] at hp
            by_cases hfit : len + xs.length ≤ cc
            · refine place (g' + 1) ⟨true, joinTy sk.ty el⟩ (elems ++ xs) none (fun _ => rfl) (Nat.le_succ _) hfit (fun k hk => by cases hk) (by omega) (fun p => ?_) (fun hs => by cases hs) (fun t ht => (joinTy_some ht).1) hp
              rw [List.getElem?_append]
              by_cases h1 : p < elems.length
              · rw [if_pos h1, if_neg (by omega)]
              · rw [if_neg h1]
                by_cases h2 : 0 + len ≤ p ∧ p < 0 + len + xs.length
                · rw [if_pos h2]; congr 1; omega
                · rw [if_neg h2, List.getElem?_eq_none (by omega), List.getElem?_eq_none (by omega)]
            · obtain ⟨vals, hLv, htl, hold⟩ := olds (by omega)
              obtain ⟨rest, ncap, hr1, hn1, hn2⟩ := grow (some ad) len cc _ vals hxe hLv htl hold (by omega) hroom
              have hfull : (elems.drop 0).take len = elems := by rw [List.drop_zero, hlen, List.take_length]
              rw [hfull] at hLv
              have hall := grown_cells (hLv.append hL) rest
              rw [← hsz'] at hall
              have hrd := drew_rep hr
              have hdx : Ext c ⟨n, l⟩ w c ⟨n, l⟩ w.drew := drew_ext
              have hmv := rep_move (ty := el) hrd hob (tyo := joinTy sk.ty el) (fun t ht => (joinTy_some ht).2) hall.1 hall.2.1 fun p j e v x' h1 h2 h3 => (hall.2.2 p j e v x' h1 h2 h3).mono hr hdx
              refine ⟨_, _, _, c.push ii w.heap.size, _, hp, .inl hr1, hmv, hdx.trans hr (ext_move hob _), ?_⟩
              have := sl_at (c := c.push ii w.heap.size) (off := 0) (n := n) (cc := ncap) (len := len + xs.length) (cap := none) hin (objL_putS l ii _ (.vec (g' + 1) szo (elems ++ xs) ⟨true, joinTy sk.ty el⟩) hob)
                (w' := w.drew.alloc (.cells ((vals ++ news).toArray ++ rest) el)) (C := (vals ++ news).toArray ++ rest) (ty := el) (fz := (0, 0)) (by simp only [Cx.push, if_pos]; exact heap_new w.drew _) hn1 (fun k hk => by cases hk) (by rw [hsz']; omega) (fun _ => by rw [hsz']; omega)
              rw [hsz'] at this ⊢
              simpa [Cx.push] using this
        · exact hp.elim
      · exact hp.elim
    · exact hp.elim
end
end Ab
