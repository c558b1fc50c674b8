/- Texts gone through, maps, types asked for, rows copied: what they do. -/
import Derived.Test.YtboinbjiemmggaaDoorAbU
import Derived.Maps.RangeRun
import Derived.MapKept
namespace Ab
set_option linter.unusedVariables false
set_option linter.unusedSimpArgs false
open Go
section
variable {P : Program} {Γ : CallR} {c : Cx} {h : Heap} {w : World} {e : Env} {a : Act} {o : Oper} {k kp : SV → Heap → Prop}

/-- A block that is no row of cells, written anew. -/
def blk (w : World) (b : Nat) (ob : Obj) : World := { w with heap := w.heap.setIfInBounds b ob }
theorem blk_same {b : Nat} {ob : Obj} (hb : b < w.heap.size) : (blk w b ob).heap[b]? = some ob := by simp [blk, hb]
theorem blk_ne {b b' : Nat} {ob : Obj} (hb : b' ≠ b) : (blk w b ob).heap[b']? = w.heap[b']? := by
  simp only [blk, Array.getElem?_setIfInBounds]
  rw [if_neg (fun e => hb e.symm)]
theorem blk_size {b : Nat} {ob : Obj} : (blk w b ob).heap.size = w.heap.size := by simp [blk]
def noCells : Obj → Bool
  | .cells .. => false
  | _ => true
theorem shape_no {b : Nat} {ob : Obj} (h : w.heap[b]? = some ob) (hn : noCells ob = true) : w.shape? b = none := by
  unfold World.shape?
  rw [h]
  cases ob <;> first | rfl | cases hn
theorem does_blk {n : Nat} {l : List (Nat × AObj)} (hr : Rep c ⟨n, l⟩ w) {i : Nat} {o0 o1 : AObj} {b0 b1 : Obj} (ho : objL l i = some o0) (hg : o0.gen = o1.gen) (hs : o0.sz = o1.sz) (h0 : w.heap[c.β i]? = some b0) (n0 : noCells b0 = true) (n1 : noCells b1 = true)
    (hor : Ext c ⟨n, l⟩ w c ⟨n, putO l i o1⟩ (blk w (c.β i) b1) → (blk w (c.β i) b1).heap[c.β i]? = some b1 → OR c ⟨n, putO l i o1⟩ (blk w (c.β i) b1) (c.β i) o1) :
    Rep c ⟨n, putO l i o1⟩ (blk w (c.β i) b1) ∧ Ext c ⟨n, l⟩ w c ⟨n, putO l i o1⟩ (blk w (c.β i) b1) := by
  have hlt : c.β i < w.heap.size := (hr.obj i o0 ho).lt
  have hx : Ext c ⟨n, l⟩ w c ⟨n, putO l i o1⟩ (blk w (c.β i) b1) := ext_set hr ho hg hs rfl rfl rfl blk_size (fun b' hb => blk_ne hb) (by rw [shape_no (blk_same hlt) n1, shape_no h0 n0])
  exact ⟨rep_set hr ho hx blk_size (fun b' hb => blk_ne hb) (hor hx (blk_same hlt)), hx⟩

theorem vr_tup1 {u : SV} {x : Value} (hu : VR c h w u x) : VR c h w (.tup [u]) (.tuple #[x]) := .tup _ _ rfl fun i v y hv hy => by
  cases i with
  | zero => simp at hv hy; subst hv; subst hy; exact hu
  | succ i => simp at hv
theorem vr_tup2 {u v : SV} {x y : Value} (hu : VR c h w u x) (hv : VR c h w v y) : VR c h w (.tup [u, v]) (.tuple #[x, y]) := .tup _ _ rfl fun i a b ha hb => by
  rcases i with _ | _ | i
  · simp at ha hb; subst ha; subst hb; exact hu
  · simp at ha hb; subst ha; subst hb; exact hv
  · simp at ha
theorem vr_tup3 {u v t : SV} {x y z : Value} (hu : VR c h w u x) (hv : VR c h w v y) (ht : VR c h w t z) : VR c h w (.tup [u, v, t]) (.tuple #[x, y, z]) := .tup _ _ rfl fun i a b ha hb => by
  rcases i with _ | _ | _ | i
  · simp at ha hb; subst ha; subst hb; exact hu
  · simp at ha hb; subst ha; subst hb; exact hv
  · simp at ha hb; subst ha; subst hb; exact ht
  · simp at ha
theorem vr_tup0 : VR c h w (.tup []) (.tuple #[]) := .pure (.tup _ _ rfl fun i v x hv => by simp at hv)

theorem does_rangeS (hr : Rep c h w) (he : ER c h w e a.tmps) {t : TypeId} {x : Operand} (ho : o.op = .range t x) (hu : P.underlying t = some .string) (hp : aop P Γ (.rangeS (cOpd x)) e h k kp) : Does P c h w a o k := by
  simp only [aop, evK_eq] at hp
  have hx := he.ev x
  obtain ⟨n, l⟩ := h
  split at hp
  · rename_i s n' l' hev hh
    cases hh
    rw [hev] at hx
    have hxe := hx.str_inv
    refine ⟨_, .pointer (some ⟨w.heap.size, 0, none⟩), _, c.push n w.heap.size, w.alloc (.stringIter ⟨s.toArray⟩ 0), hp, .inl ?_, rep_push hr _ _ (.iter s 0 (heap_new _ _)), ext_push hr _ _, ?_⟩
    · simp [execOp, ho, hxe, Instr.range, run_underlying hu, run_newObj_alloc]
    · exact .ref _ _ _ _ _ ⟨_, rfl⟩ (Nat.lt_succ_self _) (fun _ _ => Nat.zero_le _) fun o' ho' _ => by simp [Cx.push]
  · exact hp.elim

theorem does_nextS (hr : Rep c h w) (he : ER c h w e a.tmps) {x : Operand} (ho : o.op = .next x true) (hp : aop P Γ (.nextS (cOpd x)) e h k kp) : Does P c h w a o k := by
  simp only [aop, evK_eq] at hp
  have hx := he.ev x
  obtain ⟨n, l⟩ := h
  split at hp
  · rename_i i g idx sub m hl hev hh
    cases hh
    rw [hev] at hx
    replace hp := asr_iff.1 hp
    obtain ⟨hc, hp⟩ := hp
    simp only [Bool.and_eq_true] at hc
    obtain rfl := Nat.eq_of_beq_eq_true hc.1
    obtain rfl := Nat.eq_of_beq_eq_true hc.2.1
    obtain rfl := Nat.eq_of_beq_eq_true hc.2.2
    simp only [lookO_eq] at hp
    split at hp
    · rename_i ob hob
      split at hp
      · rename_i s pos
        have hxe := hx.ref_inv (o := .iter s pos) hob rfl
        simp only [AObj.sz, Nat.mul_zero, Nat.zero_add] at hxe
        cases hr.obj i _ hob with
        | iter _ _ hw =>
          have hsz : (⟨s.toArray⟩ : ByteArray).size = s.length := by simp [ByteArray.size]
          rcases brE hp with ⟨hb, hp⟩ | ⟨hb, hp⟩
          · have hlt : pos < s.length := Nat.le_of_ble_eq_true hb
            obtain ⟨cc, wd, hdec⟩ : ∃ cc wd, Utf8.decode ⟨s.toArray⟩ pos = (cc, wd) := ⟨_, _, rfl⟩
            rw [hdec] at hp
            dsimp only at hp
            rw [setO_eq] at hp
            have hd := does_blk (o1 := .iter s (pos + wd)) (b1 := .stringIter ⟨s.toArray⟩ (pos + wd)) hr hob rfl rfl hw rfl rfl (fun _ h => .iter _ _ h)
            refine ⟨_, .tuple #[.bool true, goInt pos, .int .i32 cc], _, c, blk w (c.β i) (.stringIter ⟨s.toArray⟩ (pos + wd)), hp, .inl ?_, hd.1, hd.2, vr_tup3 .bool .int .int⟩
            simp only [execOp, ho, hxe, Instr.next, getObj, Sem.run_bind, Sem.run, hw, Result.andThen_ok, Result.andThen, hsz, hlt, if_true, hdec, setObj, blk]
            rfl
          · have hge : ¬ pos < s.length := fun hlt => by
              have : Nat.blt pos s.length = true := by show Nat.ble (pos + 1) s.length = true; rw [Nat.ble_eq]; exact hlt
              rw [this] at hb; cases hb
            refine ⟨_, .tuple #[.bool false], _, c, w, hp, .inl ?_, hr, .refl, vr_tup1 .bool⟩
            simp only [execOp, ho, hxe, Instr.next, getObj, Sem.run_bind, Sem.run, hw, Result.andThen_ok, Result.andThen, hsz, hge, if_false]
            rfl
      · exact hp.elim
    · exact hp.elim
  · exact hp.elim

theorem does_mkMap (hr : Rep c h w) {t : TypeId} (ho : o.op = .makeMap t none) (hp : aop P Γ .mkMap e h k kp) : Does P c h w a o k := by
  simp only [aop] at hp
  obtain ⟨n, l⟩ := h
  refine ⟨_, .map (some w.heap.size), _, c.push n w.heap.size, w.alloc (.map #[] 0), hp, .inl ?_, rep_push hr _ _ (.map [] 0 (heap_new _ _) (by simp)), ext_push hr _ _, ?_⟩
  · simp [execOp, ho, Instr.makeMap, run_newObj_alloc]
  · exact .mapv _ _ _ ⟨_, rfl⟩ (Nat.lt_succ_self _) (fun _ _ => Nat.zero_le _) fun o' ho' _ => by simp [Cx.push]

theorem does_rangeM (hr : Rep c h w) (he : ER c h w e a.tmps) {t kt et : TypeId} {x : Operand} (ho : o.op = .range t x) (hu : P.underlying t = some (.map kt et)) (hp : aop P Γ (.rangeM (cOpd x)) e h k kp) : Does P c h w a o k := by
  simp only [aop, evK_eq] at hp
  have hx := he.ev x
  obtain ⟨n, l⟩ := h
  split at hp
  · rename_i n' l' hev hh
    cases hh
    rw [hev] at hx
    have hxe := hx.nilm_inv
    refine ⟨_, .pointer (some ⟨w.heap.size, 0, none⟩), _, c.push n w.heap.size, w.alloc (.mapIter none 0 #[] 0), hp, .inl ?_, rep_push hr _ _ (.miter .nilm 0 [] 0 none (heap_new _ _) (.pure .nilm)), ext_push hr _ _, ?_⟩
    · simp [execOp, ho, hxe, Instr.range, run_underlying hu, run_newObj_alloc]
    · exact .ref _ _ _ _ _ ⟨_, rfl⟩ (Nat.lt_succ_self _) (fun _ _ => Nat.zero_le _) fun o' ho' _ => by simp [Cx.push]
  · rename_i i g n' l' hev hh
    cases hh
    rw [hev] at hx
    simp only [lookO_eq] at hp
    split at hp
    · rename_i ob hob
      split at hp
      · rename_i es cl
        replace hp := asr_iff.1 hp
        obtain ⟨hg, hp⟩ := hp
        obtain rfl := Nat.eq_of_beq_eq_true hg
        have hxe := hx.mapv_inv (o := .map es cl) hob rfl
        cases hr.obj i _ hob with
        | map _ _ hw hs =>
          refine ⟨_, .pointer (some ⟨w.heap.size, 0, none⟩), _, c.push n w.heap.size, w.alloc (.mapIter (some (c.β i)) cl #[] cl), hp, .inl ?_, rep_push hr _ _ (.miter _ cl [] cl _ (heap_new _ _) ?_), ext_push hr _ _, ?_⟩
          · simp [execOp, ho, hxe, Instr.range, run_underlying hu, getObj, Sem.run, hw, run_newObj_alloc]
          · rw [← hxe]; exact hx.mono hr (ext_push hr _ _)
          · exact .ref _ _ _ _ _ ⟨_, rfl⟩ (Nat.lt_succ_self _) (fun _ _ => Nat.zero_le _) fun o' ho' _ => by simp [Cx.push]
      · exact hp.elim
    · exact hp.elim
  · exact hp.elim

def kindOk (b : Bool) (kd : TypeDesc) : Prop := match b with | true => kd = .string | false => ∃ q, kd = .int q
theorem keyEq_now {isStr : Bool} {kd : TypeDesc} (hkd : kindOk isStr kd) {kk x : SV} (hk : keyB isStr kk = true) {b : Bool} (he : keyEq kk x = some b) : Instr.sameNow kd (valOf 4 kk) (valOf 4 x) = some b := by
  unfold keyEq at he
  split at he
  · rename_i s t
    cases he
    cases isStr with
    | true =>
      subst hkd
      show some (_ == _) = _
      congr 1
      rw [Bool.eq_iff_iff, Go.MapKept.bytes_beq, beq_iff_eq]
      exact ⟨fun h => by have := congrArg (fun b : ByteArray => b.data.toList) h; simpa using this, fun h => by rw [h]⟩
    | false => cases hk
  · rename_i q m q' m'
    split at he
    · rename_i hq
      cases he
      cases isStr with
      | true => cases hk
      | false =>
        obtain ⟨q2, rfl⟩ := hkd
        show (if q = q' then some (m == m') else none) = _
        rw [if_pos (kEq_iff.1 hq)]
    · cases he
  · cases he
theorem findK_run {isStr : Bool} {kd : TypeDesc} (hkd : kindOk isStr kd) {kk : SV} (hk : keyB isStr kk = true) : ∀ {es : List (SV × SV × Nat)} {i : Nat} {K : Option (Nat × SV) → Prop}, findK kk es i K →
    ∃ r, K r ∧ Instr.findNow kd (valOf 4 kk) (es.map entryOf) i = some (r.map fun p => (p.1, valOf 4 p.2)) ∧ ∀ j v, r = some (j, v) → i ≤ j ∧ ∃ x s, es[j - i]? = some (x, v, s) ∧ keyEq kk x = some true
  | [], i, K, hp => ⟨none, hp, rfl, fun j v h => by cases h⟩
  | (x, v, s) :: r, i, K, hp => by
    unfold findK at hp
    split at hp
    · rename_i b hb
      have hn := keyEq_now hkd hk hb
      rcases brE hp with ⟨rfl, hp⟩ | ⟨rfl, hp⟩
      · refine ⟨_, hp, ?_, fun j v' h => ?_⟩
        · simp only [List.map_cons, entryOf, Instr.findNow, hn]
          rfl
        · cases h
          exact ⟨Nat.le_refl _, x, s, by simp, hb⟩
      · obtain ⟨r', h1, h2, h3⟩ := findK_run hkd hk hp
        refine ⟨r', h1, ?_, fun j v' h => ?_⟩
        · simp only [List.map_cons, entryOf, Instr.findNow, hn]
          exact h2
        · obtain ⟨h4, x', s', h5, h6⟩ := h3 j v' h
          refine ⟨by omega, x', s', ?_, h6⟩
          rw [show j - i = (j - (i + 1)) + 1 by omega, List.getElem?_cons_succ]
          exact h5
    · exact hp.elim
theorem keyT_desc {t : TypeId} {b : Bool} (h : keyT P t = some b) : ∃ kd, P.underlying t = some kd ∧ kindOk b kd := by
  unfold keyT at h
  split at h
  · rename_i hu; cases h; exact ⟨_, hu, rfl⟩
  · rename_i q hu; cases h; exact ⟨_, hu, q, rfl⟩
  · cases h
theorem keyB_val {isStr : Bool} {kk : SV} (hk : keyB isStr kk = true) {x : Value} (hx : VR c h w kk x) : x = valOf 4 kk := by
  unfold keyB at hk
  split at hk
  · exact hx.str_inv
  · exact hx.int_inv
  · cases hk
theorem check_key {b empty : Bool} {kt : TypeId} {kd : TypeDesc} (hu : P.underlying kt = some kd) (hkd : kindOk b kd) (x : Value) : (Instr.checkKey empty 10000 kt x).run P w = .ok () w := by
  have : (10000 : Nat) = 9999 + 1 := rfl
  rw [this]
  unfold Instr.checkKey
  cases b with
  | true => subst hkd; simp [run_underlying hu]
  | false => obtain ⟨q, rfl⟩ := hkd; simp [run_underlying hu]
theorem find_key {kt : TypeId} {kd : TypeDesc} (hu : P.underlying kt = some kd) {kx : Value} {es : List MapEntry} {r : Option (Nat × Value)} (h : Instr.findNow kd kx es 0 = some r) : (Instr.findKey kt kx es).run P w = .ok r w := by
  unfold Instr.findKey
  simp [run_underlying hu, h]

theorem does_mapGet (hr : Rep c h w) (he : ER c h w e a.tmps) {isStr ok : Bool} {t kt et : TypeId} {m x : Operand} {i : TypeInfo} {z : Value} (ho : o.op = .lookup t m x ok) (hu : P.underlying t = some (.map kt et)) (hkt : keyT P kt = some isStr) (hi : P.info? et = some i) (hz : i.zero = some z) (hsol : solidB 4 (ofVal 4 z) = true)
    (hp : aop P Γ (.mapGet isStr (ofVal 4 z) ok (cOpd m) (cOpd x)) e h k kp) : Sees P c h w a o k := by
  simp only [aop, evK_eq] at hp
  have hm := he.ev m
  have hx := he.ev x
  obtain ⟨kd, hku, hkd⟩ := keyT_desc hkt
  have hzv : VR c h w (ofVal 4 z) z := .pure (ofVal_vp 4 z)
  obtain ⟨n, l⟩ := h
  have hzr : (zeroValue et).run P w = .ok z w := zero_run hi hz
  split at hp
  · rename_i hev
    rw [hev] at hm
    replace hp := asr_iff.1 hp
    obtain ⟨hkb, hp⟩ := hp
    have hme := hm.nilm_inv
    have hrun : (Instr.lookup t (a.eval m) (a.eval x) ok).run P w = .ok (if ok then .tuple #[z, .bool false] else z) w := by
      have h0 := find_key (P := P) (w := w) (es := []) hku (kx := a.eval x) (r := none) rfl
      unfold Instr.lookup
      simp only [Sem.run_bind, run_underlying hu, Result.andThen_ok, hme, Sem.run_pure, check_key hku hkd, Array.toList_empty, h0]
      cases ok <;> simp [hzr]
    cases ok
    · exact .of _ _ hp (by simp only [execOp, ho, Sem.run_bind, hrun]; rfl) hzv
    · exact .of _ _ hp (by simp only [execOp, ho, Sem.run_bind, hrun]; rfl) (vr_tup2 hzv .bool)
  · rename_i ii g n' l' hev hh
    cases hh
    rw [hev] at hm
    simp only [lookO_eq] at hp
    split at hp
    · rename_i ob hob
      split at hp
      · rename_i es cl
        replace hp := asr_iff.1 hp
        obtain ⟨hc, hp⟩ := hp
        simp only [Bool.and_eq_true] at hc
        obtain ⟨hg, hkb⟩ := hc
        obtain rfl := Nat.eq_of_beq_eq_true hg
        have hme := hm.mapv_inv (o := .map es cl) hob rfl
        cases hr.obj ii _ hob with
        | map _ _ hw hs =>
          obtain ⟨r, hp, hfind, hat⟩ := findK_run hkd hkb hp
          rw [← keyB_val hkb hx] at hfind
          have hrun : (Instr.lookup t (a.eval m) (a.eval x) ok).run P w = .ok (match r with | some p => if ok then .tuple #[valOf 4 p.2, .bool true] else valOf 4 p.2 | none => if ok then .tuple #[z, .bool false] else z) w := by
            unfold Instr.lookup
            simp only [Sem.run_bind, run_underlying hu, Result.andThen_ok, hme, getObj, Sem.run, hw, Result.andThen, Sem.run_pure, check_key hku hkd]
            rw [find_key hku (r := r.map fun p => (p.1, valOf 4 p.2)) (by simpa using hfind)]
            cases r with
            | none => cases ok <;> simp [hzr]
            | some p => cases ok <;> simp
          cases r with
          | none =>
            cases ok
            · exact .of _ _ hp (by simp only [execOp, ho, Sem.run_bind, hrun]; rfl) hzv
            · exact .of _ _ hp (by simp only [execOp, ho, Sem.run_bind, hrun]; rfl) (vr_tup2 hzv .bool)
          | some p =>
            obtain ⟨j, v⟩ := p
            obtain ⟨_, xk, s, hjj, _⟩ := hat j v rfl
            have hv : VR c ⟨n, l⟩ w v (valOf 4 v) := .pure (solid_vp 4 v (hs _ (List.mem_of_getElem? hjj)))
            cases ok
            · exact .of _ _ hp (by simp only [execOp, ho, Sem.run_bind, hrun]; rfl) hv
            · exact .of _ _ hp (by simp only [execOp, ho, Sem.run_bind, hrun]; rfl) (vr_tup2 hv .bool)
      · exact hp.elim
    · exact hp.elim
  · exact hp.elim
theorem setE_map {es : List (SV × SV × Nat)} {k v : SV} : ∀ {j : Nat}, (setE es j k v).map entryOf = (es.map entryOf).modify j (fun e => { e with key := valOf 4 k, val := valOf 4 v }) := by
  induction es with
  | nil => intro j; cases j <;> rfl
  | cons p r ih =>
    intro j
    obtain ⟨a, u, s⟩ := p
    cases j with
    | zero => rfl
    | succ j =>
      show entryOf (a, u, s) :: (setE r j k v).map entryOf = _
      rw [ih]
      rfl
theorem setE_solid {es : List (SV × SV × Nat)} {k v : SV} (hv : solidB 4 v = true) : ∀ {j : Nat}, (∀ p ∈ es, solidB 4 p.2.1 = true) → ∀ p ∈ setE es j k v, solidB 4 p.2.1 = true := by
  induction es with
  | nil => intro j _ p hp; cases j <;> cases hp
  | cons q r ih =>
    intro j hs p hp
    obtain ⟨a, u, s⟩ := q
    cases j with
    | zero =>
      rcases List.mem_cons.1 hp with rfl | hp
      · exact hv
      · exact hs p (by simp [hp])
    | succ j =>
      rcases List.mem_cons.1 hp with rfl | hp
      · exact hs _ (by simp)
      · exact ih (fun p hp => hs p (by simp [hp])) p hp
theorem keyEq_same {isStr : Bool} {kk x : SV} (hk : keyB isStr kk = true) (he : keyEq kk x = some true) : valOf 4 x = valOf 4 kk := by
  unfold keyEq at he
  split at he
  · rename_i s t
    have : s = t := by simpa using he
    subst this; rfl
  · rename_i q m q' m'
    split at he
    · rename_i hq
      have h1 := kEq_iff.1 hq
      have : m = m' := by simpa using he
      subst h1; subst this; rfl
    · cases he
  · cases he
theorem bits_key {isStr : Bool} {kk : SV} (hk : keyB isStr kk = true) : Instr.sameBits 10000 (valOf 4 kk) (valOf 4 kk) = true := by
  unfold keyB at hk
  split at hk
  · exact (Go.MapKept.bytes_beq _ _).2 rfl
  · show ((_ : IntKind) == _ && (_ : Int) == _) = true; simp
  · cases hk
theorem does_mapSet (hr : Rep c h w) (he : ER c h w e a.tmps) {isStr : Bool} {t kt et : TypeId} {m x y : Operand} (ho : o.op = .mapUpdate t m x y ∨ o.op = .insert t m x y) (hu : P.underlying t = some (.map kt et)) (hkt : keyT P kt = some isStr)
    (hp : aop P Γ (.mapSet isStr (cOpd m) (cOpd x) (cOpd y)) e h k kp) : Does P c h w a o k := by
  simp only [aop, evK_eq] at hp
  have hm := he.ev m
  have hx := he.ev x
  have hy := he.ev y
  obtain ⟨kd, hku, hkd⟩ := keyT_desc hkt
  obtain ⟨n, l⟩ := h
  split at hp
  · rename_i ii g n' l' hev hh
    cases hh
    rw [hev] at hm
    simp only [lookO_eq] at hp
    split at hp
    · rename_i ob hob
      split at hp
      · rename_i es cl
        replace hp := asr_iff.1 hp
        obtain ⟨hc, hp⟩ := hp
        simp only [Bool.and_eq_true] at hc
        obtain ⟨hg, hkb, hsol⟩ := hc
        obtain rfl := Nat.eq_of_beq_eq_true hg
        have hme := hm.mapv_inv (o := .map es cl) hob rfl
        have hye := solid_eq 4 _ _ hsol hy
        have hxe := keyB_val hkb hx
        cases hr.obj ii _ hob with
        | map _ _ hw hs =>
          obtain ⟨r, hp, hfind, hat⟩ := findK_run hkd hkb hp
          have hex : (execOp a.eval o).run P w = ((Instr.mapUpdate t (a.eval m) (a.eval x) (a.eval y)).run P w).andThen fun _ w => .ok .skip w := by
            rcases ho with ho | ho <;> (simp only [execOp, ho, Sem.run_bind]; rfl)
          cases r with
          | none =>
            dsimp only at hp
            rw [setO_eq] at hp
            have hd := does_blk (o1 := .map (es ++ [((cOpd x).ev e, (cOpd y).ev e, cl)]) (cl + 1)) (b1 := .map ((es.map entryOf).toArray.push ⟨a.eval x, a.eval y, cl⟩) (cl + 1)) hr hob rfl rfl hw rfl rfl (fun _ h => .map _ _ (by
              rw [h, hxe, hye]
              simp [entryOf]) (fun p hp => by
                rcases List.mem_append.1 hp with hp | hp
                · exact hs p hp
                · simp only [List.mem_singleton] at hp; subst hp; exact hsol))
            refine ⟨_, undef, _, c, _, hp, .inr ⟨?_, rfl⟩, hd.1, hd.2, vr_tup0⟩
            rw [hex]
            unfold Instr.mapUpdate
            simp only [Sem.run_bind, run_underlying hu, Result.andThen_ok, hme, getObj, Sem.run, hw, Result.andThen, check_key hku hkd]
            rw [find_key hku (r := none) (by rw [hxe]; simpa using hfind)]
            simp [setObj, Sem.run, hw, blk]
          | some p =>
            obtain ⟨j, v⟩ := p
            obtain ⟨_, xk, s, hjj, hsame⟩ := hat j v rfl
            rw [Nat.sub_zero] at hjj
            dsimp only at hp
            rw [setO_eq] at hp
            have hd := does_blk (o1 := .map (setE es j ((cOpd x).ev e) ((cOpd y).ev e)) cl) (b1 := .map ((es.map entryOf).toArray.modify j fun q => { q with key := a.eval x, val := a.eval y }) cl) hr hob rfl rfl hw rfl rfl (fun _ h => .map _ _ (by
              rw [h, setE_map, hxe, hye]
              simp) (setE_solid hsol hs))
            refine ⟨_, undef, _, c, _, hp, .inr ⟨?_, rfl⟩, hd.1, hd.2, vr_tup0⟩
            rw [hex]
            have hold : (((es.map entryOf).toArray[j]?).map (·.key)).getD (a.eval x) = a.eval x := by
              simp [hjj, entryOf, hxe, keyEq_same hkb hsame]
            unfold Instr.mapUpdate
            simp only [Sem.run_bind, run_underlying hu, Result.andThen_ok, hme, getObj, Sem.run, hw, Result.andThen, check_key hku hkd]
            rw [find_key hku (r := some (j, valOf 4 v)) (by rw [hxe]; simpa using hfind)]
            have hbits : (Instr.keyThatStays (a.eval x) (a.eval x)).run P w = .ok (a.eval x) w := by
              unfold Instr.keyThatStays
              rw [hxe, bits_key hkb]
              simp
            simp only [Result.andThen_ok, hold, hbits, Sem.run_bind]
            simp [setObj, Sem.run, hw, blk]
      · exact hp.elim
    · exact hp.elim
  · exact hp.elim

theorem sees_lenM (hr : Rep c h w) (he : ER c h w e a.tmps) {cl : Call} {x : Operand} {t kt et : TypeId} (ho : o.op = .call cl) (hcl : cl.callee = .builtin .len) (hargs : cl.args.toList = [x]) (htys : cl.argTypes.toList = [t]) (hu : P.underlying t = some (.map kt et))
    (hp : aop P Γ (.lenM (cOpd x)) e h k kp) : Sees P c h w a o k := by
  simp only [aop, evK_eq] at hp
  have hx := he.ev x
  obtain ⟨n, l⟩ := h
  have hargs' : cl.args = #[x] := by simpa using congrArg List.toArray hargs
  have htys' : cl.argTypes = #[t] := by simpa using congrArg List.toArray htys
  split at hp
  · rename_i hev
    rw [hev] at hx
    refine .of _ _ hp ?_ .int
    simp [execOp, ho, resolve, hcl, hargs', htys', invoke, builtin, Builtin.len_, run_underlying hu, hx.nilm_inv, goInt]
  · rename_i ii g n' l' hev hh
    cases hh
    rw [hev] at hx
    simp only [lookO_eq] at hp
    split at hp
    · rename_i ob hob
      split at hp
      · rename_i es c2
        replace hp := asr_iff.1 hp
        obtain ⟨hg, hp⟩ := hp
        obtain rfl := Nat.eq_of_beq_eq_true hg
        have hxe := hx.mapv_inv (o := .map es c2) hob rfl
        cases hr.obj ii _ hob with
        | map _ _ hw hs =>
          refine .of _ _ hp ?_ .int
          simp [execOp, ho, resolve, hcl, hargs', htys', invoke, builtin, Builtin.len_, run_underlying hu, hxe, getObj, Sem.run, hw, goInt]
      · exact hp.elim
    · exact hp.elim
  · exact hp.elim

theorem sees_tyAs (he : ER c h w e a.tmps) {ok : Bool} {t xt : TypeId} {x : Operand} {i : TypeInfo} {z : Value} {d : TypeDesc} (ho : o.op = .typeAssert x xt t ok) (hu : P.underlying t = some d) (hd : ∀ ms, d ≠ .interface ms) (hi : P.info? t = some i) (hz : i.zero = some z)
    (hp : aop P Γ (.tyAs t (ofVal 4 z) ok (cOpd x)) e h k kp) : Sees P c h w a o k := by
  simp only [aop, evK_eq] at hp
  have hx := he.ev x
  have hzv : VR c h w (ofVal 4 z) z := .pure (ofVal_vp 4 z)
  have hzr : (zeroValue t).run P w = .ok z w := zero_run hi hz
  split at hp
  · rename_i u v hev
    rw [hev] at hx
    obtain ⟨y, hxe, hv⟩ := hx.iface_inv
    rcases brE hp with ⟨hb, hp2⟩ | ⟨hb, hp⟩
    · clear hp
      obtain rfl := Nat.eq_of_beq_eq_true hb
      rcases brE hp2 with ⟨rfl, hp⟩ | ⟨rfl, hp⟩
      · refine .of _ _ hp ?_ (vr_tup2 hv .bool)
        cases d <;> first | exact absurd rfl (hd _) | simp [execOp, ho, hxe, Instr.typeAssert, run_underlying hu]
      · refine .of _ _ hp ?_ hv
        cases d <;> first | exact absurd rfl (hd _) | simp [execOp, ho, hxe, Instr.typeAssert, run_underlying hu]
    · have hne : ¬ u = t := fun h => by subst h; rw [Nat.beq_refl] at hb; cases hb
      rcases brE hp with ⟨rfl, hp⟩ | ⟨rfl, hp⟩
      · refine .of _ _ hp ?_ (vr_tup2 hzv .bool)
        cases d <;> first | exact absurd rfl (hd _) | simp [execOp, ho, hxe, Instr.typeAssert, run_underlying hu, hne, hzr]
      · exact hp.elim
  · rename_i hev
    rw [hev] at hx
    have hxe := hx.nili_inv
    rcases brE hp with ⟨rfl, hp⟩ | ⟨rfl, hp⟩
    · refine .of _ _ hp ?_ (vr_tup2 hzv .bool)
      cases d <;> first | exact absurd rfl (hd _) | simp [execOp, ho, hxe, Instr.typeAssert, run_underlying hu, hzr]
    · exact hp.elim
  · exact hp.elim

theorem sees_eqI (he : ER c h w e a.tmps) {neg : Bool} {t yt : TypeId} {x y : Operand} {ms : Array (String × TypeId)} (ho : o.op = .binOp (if neg then .neq else .eql) t x y yt) (hu : P.underlying t = some (.interface ms)) (hcst : (isConst x || isConst y) = true)
    (hp : aop P Γ (.eqI neg (cOpd x) (cOpd y)) e h k kp) : Sees P c h w a o k := by
  simp only [aop, evK_eq] at hp
  have hx := he.ev x
  have hy := he.ev y
  have he1 : ∀ (xx yy : Value) (b : Bool), (xx = .nilIface ∧ yy = .nilIface ∧ b = true) ∨ (xx = .nilIface ∧ (∃ u v, yy = .iface u v) ∧ b = false) ∨ ((∃ u v, xx = .iface u v) ∧ yy = .nilIface ∧ b = false) → (Op.equal t xx yy).run P w = .ok b w := by
    intro xx yy b hh
    unfold Op.equal
    rw [show Op.maxDepth = 9999 + 1 from rfl]
    unfold Op.equalIn
    rcases hh with ⟨rfl, rfl, rfl⟩ | ⟨rfl, ⟨u, v, rfl⟩, rfl⟩ | ⟨⟨u, v, rfl⟩, rfl, rfl⟩ <;> simp [run_underlying hu]
  have he2 : ∀ (op : BinOp) (xx yy : Value), (xx = .nilIface ∧ yy = .nilIface) ∨ (xx = .nilIface ∧ (∃ u v, yy = .iface u v)) ∨ ((∃ u v, xx = .iface u v) ∧ yy = .nilIface) → (eqGuard op t x y xx yy).run P w = .ok () w := by
    intro op xx yy hh
    unfold eqGuard
    rcases hh with ⟨rfl, rfl⟩ | ⟨rfl, u, v, rfl⟩ | ⟨⟨u, v, rfl⟩, rfl⟩
    · clear hp hx hy ho
      cases op <;> first | rfl | (cases x <;> cases y <;> first | rfl | (simp [isConst] at hcst))
    · cases op <;> rfl
    · cases op <;> rfl
  have fin : ∀ (b : Bool), (a.eval x = .nilIface ∧ a.eval y = .nilIface ∧ b = true) ∨ (a.eval x = .nilIface ∧ (∃ u v, a.eval y = .iface u v) ∧ b = false) ∨ ((∃ u v, a.eval x = .iface u v) ∧ a.eval y = .nilIface ∧ b = false) →
      (execOp a.eval o).run P w = .ok (.value (.bool (if neg then !b else b))) w := by
    intro b hh
    have h1 := he1 _ _ b hh
    have h2 := he2 (if neg then .neq else .eql) (a.eval x) (a.eval y) (by rcases hh with ⟨p, q, _⟩ | ⟨p, q, _⟩ | ⟨p, q, _⟩; exact .inl ⟨p, q⟩; exact .inr (.inl ⟨p, q⟩); exact .inr (.inr ⟨p, q⟩))
    have hb : (binOp (if neg then .neq else .eql) t (a.eval x) (a.eval y)).run P w = .ok (.bool (if neg then !b else b)) w := by
      rcases hh with ⟨p, q, _⟩ | ⟨p, ⟨u, v, q⟩, _⟩ | ⟨⟨u, v, p⟩, q, _⟩ <;> (rw [p, q] at h1 ⊢; cases neg <;> simp [binOp, h1])
    simp only [execOp, ho, Sem.run_bind, h2, Result.andThen_ok, hb]
    rfl
  split at hp
  · rename_i h1 h2
    rw [h1] at hx; rw [h2] at hy
    have := fin true (.inl ⟨hx.nili_inv, hy.nili_inv, rfl⟩)
    cases neg <;> exact .of _ _ hp this .bool
  · rename_i u v h1 h2
    rw [h1] at hx; rw [h2] at hy
    obtain ⟨yy, hye, _⟩ := hy.iface_inv
    have := fin false (.inr (.inl ⟨hx.nili_inv, ⟨_, _, hye⟩, rfl⟩))
    cases neg <;> exact .of _ _ hp this .bool
  · rename_i u v h1 h2
    rw [h1] at hx; rw [h2] at hy
    obtain ⟨yy, hye, _⟩ := hx.iface_inv
    have := fin false (.inr (.inr ⟨⟨_, _, hye⟩, hy.nili_inv, rfl⟩))
    cases neg <;> exact .of _ _ hp this .bool
  · exact hp.elim
theorem bounds3_run (he : ER c h w e a.tmps) (len cap : Nat) {lo hi : Option Operand} {mx : Operand} {K : Int → Int → Int → Prop} (hp : oevK e 0 (lo.map cOpd) fun l => oevK e len (hi.map cOpd) fun hh => oevK e 0 (some (cOpd mx)) fun mm => K l hh mm) :
    ∃ l hh mm, K l hh mm ∧ (hi ≠ none → 0 ≤ l → l ≤ hh → hh ≤ mm → mm ≤ cap → (Instr.sliceBounds true len cap (lo.map a.eval) (hi.map a.eval) (some (a.eval mx))).run P w = .ok (l.toNat, hh.toNat, mm.toNat) w) := by
  have hm : ∀ {K : Int → Prop}, oevK e 0 (some (cOpd mx)) K → ∃ kk n, K n ∧ a.eval mx = .int kk n := by
    intro K hk
    rcases oevK_inv he (x := some mx) hk with ⟨h, _⟩ | ⟨y, kk, n, h, hy, hk⟩
    · cases h
    · cases h; exact ⟨kk, n, hk, hy⟩
  rcases oevK_inv he hp with ⟨rfl, hp1⟩ | ⟨y, kk, n, rfl, hy, hp1⟩
  · rcases oevK_inv he hp1 with ⟨rfl, hp2⟩ | ⟨y, kk, n, rfl, hy, hp2⟩
    · obtain ⟨_, mm, hp3, _⟩ := hm hp2
      exact ⟨_, _, _, hp3, fun h => absurd rfl h⟩
    · obtain ⟨k3, mm, hp3, h3⟩ := hm hp2
      refine ⟨_, _, _, hp3, fun _ h0 h1 h2 h4 => ?_⟩
      have e1 := bound_run (P := P) (w := w) (kk := k3) .slice3Acap (show 0 ≤ mm by omega) (show mm ≤ (cap : Int) by omega)
      have e2 := bound_run (P := P) (w := w) (kk := kk) (y := mm.toNat) .slice3B (show 0 ≤ n by omega) (by omega)
      simp [Instr.sliceBounds, hy, h3, e1, e2]
  · rcases oevK_inv he hp1 with ⟨rfl, hp2⟩ | ⟨y2, kk2, n2, rfl, hy2, hp2⟩
    · obtain ⟨_, mm, hp3, _⟩ := hm hp2
      exact ⟨_, _, _, hp3, fun h => absurd rfl h⟩
    · obtain ⟨k3, mm, hp3, h3⟩ := hm hp2
      refine ⟨_, _, _, hp3, fun _ h0 h1 h2 h4 => ?_⟩
      have e1 := bound_run (P := P) (w := w) (kk := k3) .slice3Acap (show 0 ≤ mm by omega) (show mm ≤ (cap : Int) by omega)
      have e2 := bound_run (P := P) (w := w) (kk := kk2) (y := mm.toNat) .slice3B (show 0 ≤ n2 by omega) (by omega)
      have e3 := bound_run (P := P) (w := w) (kk := kk) (y := n2.toNat) .slice3C (show 0 ≤ n by omega) (by omega)
      simp [Instr.sliceBounds, hy, hy2, h3, e1, e2, e3]

theorem sees_slice3 (he : ER c h w e a.tmps) {t el : TypeId} {x mx : Operand} {lo hi : Option Operand} {i : TypeInfo} (ho : o.op = .slice t x lo hi (some mx)) (hhi : hi ≠ none) (hu : P.underlying t = some (.slice el)) (hi' : P.info? el = some i)
    (hp : aop P Γ (.slice3 i.size (cOpd x) (lo.map cOpd) (hi.map cOpd) (cOpd mx)) e h k kp) : Sees P c h w a o k := by
  simp only [aop, evK_eq] at hp
  have hx := he.ev x
  have hrun : ∀ (ad : Option Addr) (len cap l hh m : Nat), a.eval x = .slice ad len cap → (Instr.sliceBounds true len cap (lo.map a.eval) (hi.map a.eval) (some (a.eval mx))).run P w = .ok (l, hh, m) w →
      (execOp a.eval o).run P w = .ok (.value (.slice (if m = l then ad else ad.map (·.add (l * i.size))) (hh - l) (m - l))) w := by
    intro ad len cap l hh m hx hr
    simp [execOp, ho, hx, Instr.sliceAt, run_underlying hu, Instr.slice, hr, sizeOf_run hi']
  split at hp
  · rename_i sz n get h1
    rw [h1] at hx
    replace hp := asr_iff.1 hp
    obtain ⟨hsz, hp⟩ := hp
    have hsz := Nat.eq_of_beq_eq_true hsz
    obtain ⟨ad, cap, hxe, hnc, hor⟩ := hx.lst_inv
    obtain ⟨l, hh, mm, hp, hbr⟩ := bounds3_run (P := P) (w := w) he n cap hp
    replace hp := asr_iff.1 hp
    obtain ⟨hb, hp⟩ := hp
    simp only [Bool.and_eq_true, decide_eq_true_eq] at hb
    obtain ⟨⟨h0, h1⟩, h2, h3⟩ := hb
    refine .of _ _ hp (hrun _ _ _ _ _ _ hxe (hbr hhi h0 h1 h2 (by omega))) ?_
    by_cases hz : hh.toNat - l.toNat = 0
    · rw [hz]
      exact .pure (.lst0 _ _ _ _)
    · rcases hor with rfl | ⟨b, off, C, ty, fz, rfl, hb, hw, hn, hc, hcell⟩
      · omega
      · rw [if_neg (by omega)]
        simp only [Option.map_some, add_eq]
        refine .pure (.lst sz _ _ b (off + l.toNat * i.size) _ C ty fz hb hw ?_ (by omega) (fun j hj => hc _ (by omega)) fun j j' v y hj hv hy => hcell (l.toNat + j) j' v y (by omega) hv ?_)
        · have e1 : (l.toNat + (hh.toNat - l.toNat)) * sz ≤ n * sz := Nat.mul_le_mul_right _ (by omega)
          rw [Nat.add_mul] at e1
          rw [← hsz]
          omega
        · rw [← hy, ← hsz, Nat.add_mul]
          congr 1
          omega
  · rename_i ii g sz off len cap hev
    rw [hev] at hx
    clear hev
    replace hp := asr_iff.1 hp
    obtain ⟨hsz, hp⟩ := hp
    have hsz := Nat.eq_of_beq_eq_true hsz
    obtain ⟨hp, sz', elems, sk, hob⟩ := liveK_inv hp
    obtain ⟨hsz', ad, cc, hxe, hlc, hcap, hor⟩ := hx.sl_inv hob rfl
    obtain ⟨l, hh, mm, hp, hbr⟩ := bounds3_run (P := P) (w := w) he len cc hp
    replace hp := asr_iff.1 hp
    obtain ⟨hb, hp⟩ := hp
    simp only [Bool.and_eq_true, decide_eq_true_eq] at hb
    obtain ⟨⟨h0, h1⟩, h2, h3⟩ := hb
    have hmc : mm.toNat ≤ cc := by
      cases cap with
      | some cp => have := hcap cp rfl; dsimp only at h3; omega
      | none => dsimp only at h3; omega
    refine .of _ _ hp (hrun _ _ _ _ _ _ hxe (hbr hhi h0 h1 h2 (by omega))) ?_
    cases hx with
    | pure hx => cases hx
    | sl _ _ _ _ _ _ _ _ hi hg _ =>
    refine .sl _ _ _ _ _ _ _ ⟨_, _, _, rfl⟩ hi hg fun o' ho' hgo => ?_
    rw [hob] at ho'; cases ho'
    by_cases hz : mm.toNat = l.toNat
    · rw [if_pos hz]
      exact ⟨hsz', ad, _, rfl, by omega, fun k hk => by cases hk; rfl, .inl (by omega), fun h => by cases h⟩
    · rw [if_neg hz]
      simp only [Option.map_some]
      refine ⟨hsz', _, _, rfl, by omega, fun k hk => by cases hk; rfl, .inr ?_, fun h => by cases h⟩
      rcases hor with h0 | ⟨rfl, ty, n, hsh, hle'⟩
      · omega
      · refine ⟨by rw [add_eq, Nat.add_mul, hsz], ty, n, hsh, ?_⟩
        have e1 : (off + l.toNat) * sz + (mm.toNat - l.toNat) * sz = (off + mm.toNat) * sz := by
          rw [← Nat.add_mul]
          congr 1
          omega
        have e2 : (off + mm.toNat) * sz ≤ (off + cc) * sz := Nat.mul_le_mul_right _ (by omega)
        rw [Nat.add_mul off cc] at e2
        omega
  · rename_i h1
    rw [h1] at hx
    obtain ⟨l, hh, mm, hp, hbr⟩ := bounds3_run (P := P) (w := w) he 0 0 hp
    replace hp := asr_iff.1 hp
    obtain ⟨hb, hp⟩ := hp
    simp only [Bool.and_eq_true, decide_eq_true_eq] at hb
    obtain ⟨h0, h1, h2⟩ := hb
    subst h0; subst h1; subst h2
    refine .of _ _ hp (hrun _ _ _ _ _ _ hx.nils_inv (hbr hhi (by omega) (by omega) (by omega) (by omega))) ?_
    exact .pure .nils
  · exact hp.elim
/-! A map gone through. -/
theorem memB_iff : ∀ {s : List Nat} {n : Nat}, memB s n = s.contains n
  | [], n => rfl
  | x :: r, n => by
    unfold memB
    rw [List.contains_cons, memB_iff]
    rcases beq_cases x n with ⟨h, h'⟩ | ⟨h, h'⟩
    · rw [h]; subst h'; simp
    · rw [h]
      have : (n == x) = false := by simpa using fun e => h' e.symm
      rw [this]; rfl
theorem leftL_eq : ∀ (es : List (SV × SV × Nat)) (s : List Nat), (leftL es s).map entryOf = (es.map entryOf).filter fun e => !s.contains e.born
  | [], s => rfl
  | x :: r, s => by
    unfold leftL
    rw [memB_iff, List.map_cons, List.filter_cons]
    show _ = if (!s.contains x.2.2) = true then _ else _
    cases s.contains x.2.2
    · simp [leftL_eq r s]
    · simp [leftL_eq r s]
theorem allE_mem {p : SV → SV → Nat → Prop} : ∀ {l : List (SV × SV × Nat)}, allE l p → ∀ x ∈ l, p x.1 x.2.1 x.2.2
  | [], _, x, h => by cases h
  | y :: r, ⟨h1, h2⟩, x, h => by
    rcases List.mem_cons.1 h with rfl | h
    · exact h1
    · exact allE_mem h2 x h
theorem findE_eq : ∀ (es : List (SV × SV × Nat)) (s : Nat) {kk v : SV}, findE es s = some (kk, v) → ∃ e, (es.map entryOf).find? (fun x => x.born == s) = some e ∧ e.key = valOf 4 kk ∧ e.val = valOf 4 v ∧ ∃ x ∈ es, x.1 = kk ∧ x.2.1 = v
  | [], s, kk, v, h => by cases h
  | x :: r, s, kk, v, h => by
    unfold findE at h
    rw [List.map_cons, List.find?_cons]
    show ∃ e, (match x.2.2 == s with | true => _ | false => _) = some e ∧ _
    rcases beq_cases x.2.2 s with ⟨hb, h'⟩ | ⟨hb, h'⟩
    · rw [hb] at h
      cases h
      rw [beq_iff_eq.2 h']
      exact ⟨_, rfl, rfl, rfl, x, List.mem_cons_self .., rfl, rfl⟩
    · rw [hb] at h
      have : (x.2.2 == s) = false := by simpa using h'
      rw [this]
      obtain ⟨e, h1, h2, h3, y, hy, h4⟩ := findE_eq r s h
      exact ⟨e, h1, h2, h3, y, List.mem_cons_of_mem _ hy, h4⟩
theorem lastN_eq : ∀ (l : List Nat), l.getLast? = lastN l
  | [] => rfl
  | [x] => rfl
  | x :: y :: r => by
    rw [List.getLast?_cons_cons, lastN_eq (y :: r)]
    rfl
theorem solid_all {es : List (SV × SV × Nat)} {q : Nat → Bool} (h : (es.all fun x => q x.2.2 && (solidB 4 x.1 && solidB 4 x.2.1)) = true) : ∀ x ∈ es, q x.2.2 = true ∧ solidB 4 x.1 = true ∧ solidB 4 x.2.1 = true := fun x hx => by
  have := List.all_eq_true.1 h x hx
  simpa only [Bool.and_eq_true] using this
theorem does_nextM (hr : Rep c h w) (he : ER c h w e a.tmps) {x : Operand} (ho : o.op = .next x false) (hp : aop P Γ (.nextM (cOpd x)) e h k kp) : Does P c h w a o k := by
  simp only [aop, evK_eq] at hp
  have hx := he.ev x
  obtain ⟨n, l⟩ := h
  split at hp
  · rename_i j g idx sub n' l' hev hh
    cases hh
    rw [hev] at hx
    replace hp := asr_iff.1 hp
    obtain ⟨hgs, hp⟩ := hp
    simp only [Bool.and_eq_true] at hgs
    obtain rfl := Nat.eq_of_beq_eq_true hgs.1
    obtain rfl := Nat.eq_of_beq_eq_true hgs.2
    simp only [lookO_eq] at hp
    split at hp
    · rename_i ob hob
      split at hp
      · rename_i m since seen stepped
        split at hp
        · rename_i i g'
          replace hp := asr_iff.1 hp
          obtain ⟨hg', hp⟩ := hp
          obtain rfl := Nat.eq_of_beq_eq_true hg'
          split at hp
          · rename_i ob' hob'
            split at hp
            · rename_i es cl
              replace hp := asr_iff.1 hp
              obtain ⟨hall, hp⟩ := hp
              simp only [Bool.and_eq_true] at hall
              have hsc := Nat.le_of_ble_eq_true hall.1
              have hso := solid_all (q := fun n => Nat.blt n since) hall.2
              have hxe := hx.ref_inv (o := .miter (.mapv i 0) since seen stepped) hob rfl
              have hxe : a.eval x = .pointer (some ⟨c.β j, 0, none⟩) := by simpa [AObj.sz] using hxe
              cases hr.obj j _ hob with
              | miter _ _ _ _ r hw hm =>
              cases hr.obj i _ hob' with
              | map _ _ hw' hs =>
              have hre := hm.mapv_inv (o := .map es cl) hob' rfl
              have hre : r = some (c.β i) := by simpa using hre
              subst hre
              have hlt : c.β j < w.heap.size := (hr.obj j _ hob).lt
              have hleft : leftOf (es.map entryOf).toArray seen.toArray = ((leftL es seen).map entryOf).toArray := by
                unfold leftOf
                rw [leftL_eq]
                simp
              rcases run_next_at (P := P) w o.type (c.β j) (c.β i) since stepped seen.toArray (es.map entryOf).toArray cl hw hw' (fun y hy => by
                  obtain ⟨z, hz, rfl⟩ := List.mem_map.1 (show y ∈ es.map entryOf from hy)
                  show z.2.2 < since; exact Nat.lt_of_succ_le (by simpa [Nat.blt] using (hso z hz).1)) hsc with ⟨h0, hrun⟩ | ⟨en, hen, w1, hw1, hrun⟩
              · rw [hleft] at h0
                have : leftL es seen = [] := by simpa using h0
                rw [this] at hp
                exact ⟨_, .tuple #[.bool false], _, c, w, hp, .inl (by simp [execOp, ho, hxe, hrun]), hr, .refl, vr_tup1 .bool⟩
              · rw [hleft] at hen
                obtain ⟨z, hz, rfl⟩ := List.mem_map.1 (show en ∈ (leftL es seen).map entryOf from hen)
                have hp : setO l j (.miter (.mapv i 0) since (seen ++ [z.2.2]) cl) fun l' => k (.tup [.bool true, z.1, z.2.1]) ⟨n, l'⟩ := by
                  revert hp
                  cases hL : leftL es seen with
                  | nil => rw [hL] at hz; cases hz
                  | cons y r => intro hp; rw [hL] at hz; exact allE_mem hp z hz
                rw [setO_eq] at hp
                have hsub : ∀ {q : SV × SV × Nat}, q ∈ leftL es seen → q ∈ es := by
                  have : ∀ (es : List (SV × SV × Nat)), ∀ q ∈ leftL es seen, q ∈ es := fun es => by
                    induction es with
                    | nil => intro q hq; cases hq
                    | cons y r ih =>
                      intro q hq
                      unfold leftL at hq
                      cases hb : memB seen y.2.2
                      · rw [hb] at hq
                        rcases List.mem_cons.1 hq with rfl | hq
                        · exact List.mem_cons_self ..
                        · exact List.mem_cons_of_mem _ (ih q hq)
                      · rw [hb] at hq; exact List.mem_cons_of_mem _ (ih q hq)
                  exact fun {q} hq => this es q hq
                have hr1 : Rep c ⟨n, l⟩ w1 := by rcases hw1 with rfl | rfl; exact hr; exact drew_rep hr
                have hx1 : Ext c ⟨n, l⟩ w c ⟨n, l⟩ w1 := by rcases hw1 with rfl | rfl; exact .refl; exact drew_ext
                have hheap : w1.heap = w.heap := by rcases hw1 with rfl | rfl <;> rfl
                obtain ⟨hr2, hx2⟩ := does_blk (o1 := .miter (.mapv i 0) since (seen ++ [z.2.2]) cl) (b1 := .mapIter (some (c.β i)) since (seen.toArray.push z.2.2) cl) hr1 hob rfl rfl (by rw [hheap]; exact hw) rfl rfl
                  (fun hx hbl => .miter _ _ _ _ (some (c.β i)) (by rw [hbl]; simp) (hm.mono hr (hx1.trans hr hx)))
                have hzs := hso z (hsub hz)
                refine ⟨_, .tuple #[.bool true, valOf 4 z.1, valOf 4 z.2.1], _, c, _, hp, .inl ?_, hr2, hx1.trans hr hx2, vr_tup3 .bool (.pure (solid_vp 4 _ hzs.2.1)) (.pure (solid_vp 4 _ hzs.2.2))⟩
                simp [execOp, ho, hxe, hrun]
                first | exact ⟨⟨rfl, rfl⟩, rfl⟩ | exact ⟨rfl, rfl, rfl⟩
            · exact hp.elim
          · exact hp.elim
        · exact hp.elim
      · exact hp.elim
    · exact hp.elim
  · exact hp.elim
theorem does_entry (hr : Rep c h w) (he : ER c h w e a.tmps) {x : Operand} (ho : o.op = .entry x) (hp : aop P Γ (.entry (cOpd x)) e h k kp) : Does P c h w a o k := by
  simp only [aop, evK_eq] at hp
  have hx := he.ev x
  obtain ⟨n, l⟩ := h
  split at hp
  · rename_i j g idx sub n' l' hev hh
    cases hh
    rw [hev] at hx
    replace hp := asr_iff.1 hp
    obtain ⟨hgs, hp⟩ := hp
    simp only [Bool.and_eq_true] at hgs
    obtain rfl := Nat.eq_of_beq_eq_true hgs.1
    obtain rfl := Nat.eq_of_beq_eq_true hgs.2
    simp only [lookO_eq] at hp
    split at hp
    · rename_i ob hob
      split at hp
      · rename_i m since seen stepped
        split at hp
        · rename_i i g'
          replace hp := asr_iff.1 hp
          obtain ⟨hg', hp⟩ := hp
          obtain rfl := Nat.eq_of_beq_eq_true hg'
          split at hp
          · rename_i ob' hob'
            split at hp
            · rename_i es cl
              replace hp := asr_iff.1 hp
              obtain ⟨hall, hp⟩ := hp
              simp only [Bool.and_eq_true] at hall
              obtain rfl := Nat.eq_of_beq_eq_true hall.1
              have hxe := hx.ref_inv (o := .miter (.mapv i 0) since seen cl) hob rfl
              have hxe : a.eval x = .pointer (some ⟨c.β j, 0, none⟩) := by simpa [AObj.sz] using hxe
              split at hp
              · rename_i s hs
                split at hp
                · rename_i kk v hf
                  obtain ⟨en, h1, h2, h3, z, hz, rfl, rfl⟩ := findE_eq es s hf
                  have hzs := List.all_eq_true.1 hall.2 z hz
                  simp only [Bool.and_eq_true] at hzs
                  cases hr.obj j _ hob with
                  | miter _ _ _ _ r hw hm =>
                  cases hr.obj i _ hob' with
                  | map _ _ hw' hs' =>
                  have hre := hm.mapv_inv (o := .map es cl) hob' rfl
                  have hre : r = some (c.β i) := by simpa using hre
                  subst hre
                  have hb : seen.toArray.back? = some s := by rw [← hs, ← lastN_eq]; simp [Array.back?, List.getLast?_eq_getElem?]
                  have hf' : (es.map entryOf).toArray.find? (fun x => x.born == s) = some en := by rw [← Array.find?_toList]; exact h1
                  refine ⟨_, .tuple #[valOf 4 z.1, valOf 4 z.2.1], _, c, w, hp, .inl ?_, hr, .refl, vr_tup2 (.pure (solid_vp 4 _ hzs.1)) (.pure (solid_vp 4 _ hzs.2))⟩
                  simp [execOp, ho, hxe, Instr.entry, getObj, Sem.run, hw, hw', hb, hf', h2, h3]
                · exact hp.elim
              · exact hp.elim
            · exact hp.elim
          · exact hp.elim
        · exact hp.elim
      · exact hp.elim
    · exact hp.elim
  · exact hp.elim
theorem sees_eqN (hr : Rep c h w) (he : ER c h w e a.tmps) {neg : Bool} {t yt el : TypeId} {x y : Operand} (ho : o.op = .binOp (if neg then .neq else .eql) t x y yt) (hu : P.underlying t = some (.slice el))
    (hp : aop P Γ (.eqN neg (cOpd x) (cOpd y)) e h k kp) : Sees P c h w a o k := by
  simp only [aop, evK_eq] at hp
  have hx := he.ev x
  have hy := he.ev y
  have fin : ∀ (b : Bool) (s1 s2 : Option Addr) (l1 c1 l2 c2 : Nat), a.eval x = .slice s1 l1 c1 → a.eval y = .slice s2 l2 c2 → (s1 = none ∧ b = s2.isNone ∨ (∃ q, s1 = some q) ∧ s2 = none ∧ b = false) →
      (execOp a.eval o).run P w = .ok (.value (.bool (if neg then !b else b))) w := by
    intro b s1 s2 l1 c1 l2 c2 hx hy hh
    have h1 : (Op.equal t (.slice s1 l1 c1) (.slice s2 l2 c2)).run P w = .ok b w := by
      unfold Op.equal
      rw [show Op.maxDepth = 9999 + 1 from rfl]
      unfold Op.equalIn
      rcases hh with ⟨rfl, rfl⟩ | ⟨⟨q, rfl⟩, rfl, rfl⟩ <;> simp [run_underlying hu]
    have h2 : (eqGuard (if neg then .neq else .eql) t x y (a.eval x) (a.eval y)).run P w = .ok () w := by
      unfold eqGuard
      rw [hx, hy]
      cases neg <;> rfl
    have hb : (binOp (if neg then .neq else .eql) t (a.eval x) (a.eval y)).run P w = .ok (.bool (if neg then !b else b)) w := by
      rw [hx, hy]
      cases neg <;> simp [binOp, h1]
    simp only [execOp, ho, Sem.run_bind, h2, Result.andThen_ok, hb]
    rfl
  have lstSome : ∀ {sz n : Nat} {get : Nat → SV} {v : Value}, Nat.blt 0 n = true → VR c h w (.lst sz n get) v → ∃ q cc, v = .slice (some q) n cc := fun {sz n get v} hn hv => by
    cases hv with
    | pure hp =>
      cases hp with
      | lst0 => cases hn
      | lst _ _ _ b off cap C ty fz hb hw hn hcap hc h => exact ⟨_, _, rfl⟩
  have live : ∀ {i g : Nat} {p : Prop}, liveK h i g p → p ∧ ∃ o, h.obj i = some o ∧ o.gen = g := fun {i g p} hl => by
    obtain ⟨n, l⟩ := h
    unfold liveK at hl
    simp only [lookO_eq] at hl
    split at hl
    · rename_i ob hob
      split at hl
      · replace hl := asr_iff.1 hl
        exact ⟨hl.2, _, hob, Nat.eq_of_beq_eq_true hl.1⟩
      · exact hl.elim
    · exact hl.elim
  split at hp
  · rename_i h1 h2
    rw [h1] at hx; rw [h2] at hy
    have := fin true _ _ _ _ _ _ hx.nils_inv hy.nils_inv (.inl ⟨rfl, rfl⟩)
    cases neg <;> exact .of _ _ hp this .bool
  · rename_i i g sz off len cap h1 h2
    rw [h1] at hx; rw [h2] at hy
    obtain ⟨hp, ob, hob, hg⟩ := live hp
    obtain ⟨_, q, cc, hye, _⟩ := hy.sl_inv hob hg
    have := fin false _ _ _ _ _ _ hx.nils_inv hye (.inl ⟨rfl, rfl⟩)
    cases neg <;> exact .of _ _ hp this .bool
  · rename_i i g sz off len cap h1 h2
    rw [h1] at hx; rw [h2] at hy
    obtain ⟨hp, ob, hob, hg⟩ := live hp
    obtain ⟨_, q, cc, hxe, _⟩ := hx.sl_inv hob hg
    have := fin false _ _ _ _ _ _ hxe hy.nils_inv (.inr ⟨⟨q, rfl⟩, rfl, rfl⟩)
    cases neg <;> exact .of _ _ hp this .bool
  · rename_i sz n get h1 h2
    rw [h1] at hx; rw [h2] at hy
    replace hp := asr_iff.1 hp
    obtain ⟨q, cc, hye⟩ := lstSome hp.1 hy
    have := fin false _ _ _ _ _ _ hx.nils_inv hye (.inl ⟨rfl, rfl⟩)
    cases neg <;> exact .of _ _ hp.2 this .bool
  · rename_i sz n get h1 h2
    rw [h1] at hx; rw [h2] at hy
    replace hp := asr_iff.1 hp
    obtain ⟨q, cc, hxe⟩ := lstSome hp.1 hx
    have := fin false _ _ _ _ _ _ hxe hy.nils_inv (.inr ⟨⟨q, rfl⟩, rfl, rfl⟩)
    cases neg <;> exact .of _ _ hp.2 this .bool
  · exact hp.elim

theorem putO_same : ∀ {l : List (Nat × AObj)} {i : Nat} {o : AObj}, objL l i = some o → putO l i o = l
  | [], _, _, h => by cases h
  | (s, p) :: r, i, o, h => by
    unfold objL at h
    unfold putO
    by_cases e : s = i
    · rw [if_pos e] at h ⊢
      cases h; rfl
    · rw [if_neg e] at h ⊢
      rw [putO_same h]
/-- A run of elements is written into a row, within what is told of it. -/
theorem place_at {n : Nat} {l : List (Nat × AObj)} (hr : Rep c ⟨n, l⟩ w) {ii g szo : Nat} {elems xs : List SV} {sk : Sk} {news : List Value} (hob : objL l ii = some (.vec g szo elems sk)) {p0 : Nat} (hL : LW c ⟨n, l⟩ w szo xs news) (h1 : ∀ u ∈ news, u.oneCell' = true) (hle : p0 + xs.length ≤ elems.length) :
    ∃ w', (storeCells ⟨c.β ii, p0 * szo, none⟩ news).run P w = .ok () w' ∧ Rep c ⟨n, putO l ii (.vec g szo (setAll elems p0 xs) sk)⟩ w' ∧ Ext c ⟨n, l⟩ w c ⟨n, putO l ii (.vec g szo (setAll elems p0 xs) sk)⟩ w' := by
  cases hr.obj ii _ hob with
  | vec _ _ _ _ C ty fz hw hleC heq hty hc hf hcell =>
    have hel : ∀ p, (setAll elems p0 xs)[p]? = if p0 ≤ p ∧ p < p0 + xs.length then xs[p - p0]? else elems[p]? := fun p => setAll_get _ _ _ _ hle
    have hlen := setAll_length elems p0 xs
    have e0 : (p0 + xs.length) * szo ≤ elems.length * szo := Nat.mul_le_mul_right _ hle
    rw [Nat.add_mul] at e0
    obtain ⟨w', C', hst, e1, e2, e3, e4, e5, e6, e7, e8⟩ := storeCells_run P (c.β ii) (p0 * szo) ty fz news 0 C w hw hf (by right; rw [hL.1]; omega) h1
    have hshape : w'.shape? (c.β ii) = w.shape? (c.β ii) := by simp only [World.shape?, e6, hw, e7]
    have hxx := ext_put2 (n := n) (elems' := setAll elems p0 xs) (sk2 := sk) hob (Nat.le_refl _) e1 e2 e3 e4 e5 hshape
    have hmem' : ∀ v ∈ setAll elems p0 xs, v.cells.length = szo := by
      intro v hv
      obtain ⟨p, hp⟩ := List.mem_iff_getElem?.1 hv
      rw [hel] at hp
      split at hp
      · exact hL.2.1 v (List.mem_of_getElem? hp)
      · exact hc v (List.mem_of_getElem? hp)
    refine ⟨w', hst, rep_put2 hr hob hxx e4 e5 e6 (by rw [hlen, e7]; exact hleC) (fun hs => by rw [hlen, e7]; exact heq hs) hty hmem' (by rw [e7]; exact hf) (fun p j ee v z' hpe hv hz' => ?_), hxx⟩
    have hj : j < szo := by rw [← hmem' ee (List.mem_of_getElem? hpe)]; exact getq_lt hv
    rw [e8] at hz'
    simp only [Nat.add_zero] at hz'
    rw [hel] at hpe
    by_cases hin : p0 ≤ p ∧ p < p0 + xs.length
    · rw [if_pos hin] at hpe
      have e9 : p * szo = p0 * szo + (p - p0) * szo := by rw [← Nat.add_mul]; congr 1; omega
      have hlt2 := idx_lt (sz := szo) (getq_lt hpe) hj
      rw [if_pos (by rw [hL.1]; omega)] at hz'
      refine hL.2.2 _ j ee v z' hpe hv ?_
      rw [← hz']
      congr 1
      omega
    · rw [if_neg hin] at hpe
      have hout : ¬ (p0 * szo ≤ p * szo + j ∧ p * szo + j < p0 * szo + news.length) := by
        intro ⟨q1, q2⟩
        rw [hL.1, ← Nat.add_mul] at q2
        rcases Nat.lt_or_ge p p0 with hlt | hge
        · have := idx_lt (sz := szo) hlt hj
          omega
        · have : p0 + xs.length ≤ p := by omega
          have := Nat.mul_le_mul_right szo this
          omega
      rw [if_neg hout] at hz'
      exact hcell p j ee v z' hpe hv hz'

theorem does_clr (hr : Rep c h w) (he : ER c h w e a.tmps) {cl : Call} {x : Operand} {t el : TypeId} {i : TypeInfo} {z : Value} (ho : o.op = .call cl) (hcl : cl.callee = .builtin .clear) (hargs : cl.args.toList = [x]) (htys : cl.argTypes.toList = [t])
    (hu : P.underlying t = some (.slice el)) (hi : P.info? el = some i) (hz : i.zero = some z) (hs : (ofVal 4 z).cells.length = i.size) (hk : (ofVal 4 z).known = true)
    (hp : aop P Γ (.clr i.size (ofVal 4 z) (cOpd x)) e h k kp) : Does P c h w a o k := by
  simp only [aop, evK_eq] at hp
  have hx := he.ev x
  have hargs' : cl.args = #[x] := by simpa using congrArg List.toArray hargs
  have htys' : cl.argTypes = #[t] := by simpa using congrArg List.toArray htys
  have hrun : ∀ w', (Builtin.clear_ #[t] o.type #[a.eval x]).run P w = .ok (.tuple #[]) w' → (execOp a.eval o).run P w = .ok (.value (.tuple #[])) w' := by
    intro w' hrun
    simp [execOp, ho, resolve, hcl, hargs', htys', invoke, builtin, hrun]
  split at hp
  · rename_i h1
    rw [h1] at hx
    refine (Sees.of _ (.tuple #[]) hp (hrun _ ?_) (.pure (.tup [] #[] rfl fun i v x hv => by simp at hv))).does hr
    rw [hx.nils_inv]
    simp [Builtin.clear_, run_underlying hu]
  · rename_i ii g sz' off len cap h1
    rw [h1] at hx
    replace hp := asr_iff.1 hp
    obtain ⟨hsz, hp⟩ := hp
    have hsz := Nat.eq_of_beq_eq_true hsz
    subst hsz
    obtain ⟨n, l⟩ := h
    simp only [lookO_eq] at hp
    split at hp
    · rename_i ob hob
      split at hp
      · rename_i g' szo elems sk
        replace hp := asr_iff.1 hp
        obtain ⟨hg, hp⟩ := hp
        have hg := Nat.eq_of_beq_eq_true hg
        subst hg
        rw [replK_eq] at hp
        replace hp := asr_iff.1 hp
        obtain ⟨hone, hp⟩ := hp
        obtain ⟨hrn, hp⟩ := setRun_iff.1 hp
        rw [setO_eq] at hp
        obtain ⟨hsz', ad, cc, hxe, hlc, hcap, hor⟩ := hx.sl_inv (o := .vec g' szo elems sk) hob rfl
        simp only [AObj.sz] at hsz'
        subst hsz'
        by_cases hl0 : len = 0
        · subst hl0
          refine (Sees.of _ (.tuple #[]) ?_ (hrun _ ?_) (.pure (.tup [] #[] rfl fun i v x hv => by simp at hv))).does hr
          · have hsame : putO l ii (.vec g' i.size (setAll elems off (List.replicate 0 (ofVal 4 z))) sk) = l := putO_same hob
            rw [hsame] at hp
            exact hp
          · rw [hxe]
            simp [Builtin.clear_, run_underlying hu]
        · have hrn : off + len ≤ elems.length := by
            rcases hrn with h | h
            · exact absurd (by simpa using h) hl0
            · simpa using h
          have hzv : VR c ⟨n, l⟩ w (ofVal 4 z) z := .pure (ofVal_vp 4 z)
          have hlr := zeros_lr hzv hk hs len
          have hL : LW c ⟨n, l⟩ w i.size (List.replicate len (ofVal 4 z)) ((Array.range (len * i.size)).map (z.cells[· % z.cells.size]!)).toList :=
            ⟨by rw [Array.length_toList]; exact hlr.1, hlr.2.1, fun i j e v x h1 h2 h3 => hlr.2.2 i j e v x h1 h2 (by rw [← Array.getElem?_toList]; exact h3)⟩
          obtain ⟨w', hst, hr', hx'⟩ := place_at (P := P) hr hob (p0 := off) hL (hL.one hone) (by simpa using hrn)
          rcases hor with h0 | ⟨rfl, ty, m, hsh, hle'⟩
          · omega
          refine ⟨_, .tuple #[], _, c, w', hp, .inl (hrun _ ?_), hr', hx', .pure (.tup [] #[] rfl fun i v x hv => by simp at hv)⟩
          rw [hxe]
          have hzs : z.cells.size = i.size := cells_zero hk hs
          have hzc : Builtin.zeroCells z.cells len = (Array.range (len * i.size)).map (z.cells[· % z.cells.size]!) := by
            unfold Builtin.zeroCells
            rw [hzs]
          cases len with
          | zero => exact absurd rfl hl0
          | succ len =>
            have hst' : (storeCells ⟨c.β ii, off * i.size, none⟩ (List.map (fun x => z.cells[x % z.cells.size]!) (List.range ((len + 1) * i.size)))).run P w = .ok () w' := by
              rw [← hst]
              simp
            simp [Builtin.clear_, run_underlying hu, zero_run hi hz, hzc, hst', Result.andThen_ok]
      · exact hp.elim
    · exact hp.elim
  · exact hp.elim
end
end Ab
