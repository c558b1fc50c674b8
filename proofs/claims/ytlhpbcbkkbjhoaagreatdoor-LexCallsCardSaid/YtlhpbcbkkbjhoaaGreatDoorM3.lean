/- Parts of the proof of PLexCalls, one behind the other. -/
import Derived.Test.YtlhpbcbkkbjhoaaGreatDoorM2
import Derived.Deep.AppendSrc
import Derived.Laws.BytesString
namespace Ab
set_option linter.unusedVariables false
set_option linter.unusedSimpArgs false
open Go
section
variable {P : Program} {Γ : CallR} {c : Cx} {h : Heap} {w : World} {e : Env} {a : Act} {o : Oper} {k kp : SV → Heap → Prop}

theorem foldSet (off : Nat) : ∀ (vs : List Value) (n : Nat) (C : Array Value),
    ((vs.zipIdx n).foldl (fun cs (p : Value × Nat) => cs.setIfInBounds (off + p.2) p.1) C).size = C.size ∧
    ∀ k, ((vs.zipIdx n).foldl (fun cs (p : Value × Nat) => cs.setIfInBounds (off + p.2) p.1) C)[k]? = if off + n ≤ k ∧ k < off + n + vs.length ∧ k < C.size then vs[k - (off + n)]? else C[k]?
  | [], n, C => ⟨rfl, fun k => by simp; omega⟩
  | v :: vs, n, C => by
    simp only [List.zipIdx_cons, List.foldl_cons]
    obtain ⟨h1, h2⟩ := foldSet off vs (n + 1) (C.setIfInBounds (off + n) v)
    refine ⟨by rw [h1]; simp, fun k => ?_⟩
    rw [h2 k]
    simp only [Array.size_setIfInBounds, List.length_cons, Array.getElem?_setIfInBounds]
    by_cases hk : off + n = k
    · subst hk
      by_cases hs : off + n < C.size
      · rw [if_neg (by omega), if_pos rfl, if_pos hs, if_pos (by omega)]; simp
      · rw [if_neg (by omega), if_pos rfl, if_neg hs, if_neg (by omega)]
        rw [Array.getElem?_eq_none (by omega)]
    · by_cases hin : off + (n + 1) ≤ k ∧ k < off + (n + 1) + vs.length ∧ k < C.size
      · rw [if_pos hin, if_pos (by omega)]
        have : k - (off + n) = (k - (off + (n + 1))) + 1 := by omega
        rw [this]; simp
      · rw [if_neg hin, if_neg hk, if_neg (by omega)]

theorem fill_cons (place : Nat → Option (Nat × Nat)) (cells : Array Value) (i off sz : Nat) (v : Value) (rest : List (Nat × Value)) (hp : place i = some (off, sz)) (hs : v.cells.size = sz) (hle : off + v.cells.size ≤ cells.size) :
    ∃ C', Instr.fill place cells ((i, v) :: rest) = Instr.fill place C' rest ∧ C'.size = cells.size ∧ ∀ k, C'[k]? = if off ≤ k ∧ k < off + sz then v.cells[k - off]? else cells[k]? := by
  obtain ⟨h1, h2⟩ := foldSet off v.cells.toList 0 cells
  refine ⟨v.cells.zipIdx.foldl (fun cs (p : Value × Nat) => cs.setIfInBounds (off + p.2) p.1) cells, ?_, ?_, fun k => ?_⟩
  · have : ¬ (off + v.cells.size > cells.size) := by omega
    simp [Instr.fill, hp, hs, Nat.not_lt.2 (hs ▸ hle)]
  · rw [← Array.foldl_toList, Array.toList_zipIdx]; exact h1
  · rw [← Array.foldl_toList, Array.toList_zipIdx, h2 k]
    simp only [Nat.add_zero, Array.length_toList, Array.getElem?_toList]
    by_cases hin : off ≤ k ∧ k < off + sz
    · rw [if_pos (by omega), if_pos hin]
    · rw [if_neg (by omega), if_neg hin]

/-- Cells that read so. -/
def CR (c : Cx) (h : Heap) (w : World) (cs : List SV) (C : Array Value) : Prop := C.size = cs.length ∧ ∀ (i : Nat) (v : SV) (x : Value), cs[i]? = some v → C[i]? = some x → VR c h w v x

theorem fillParts_run (he : ER c h w e a.tmps) (place : Nat → Option (Nat × Nat)) {K : List SV → Prop} : ∀ (ps : List (Nat × Operand)) (l : List (Nat × Nat × AOpd)) (cs : List SV) (C : Array Value),
    ps.mapM (fun (j, x) => (place j).map fun (off, sz) => (off, sz, cOpd x)) = some l → CR c h w cs C → fillParts e l cs K →
    ∃ cs' C', K cs' ∧ Instr.fill place C (ps.map fun (i, x) => (i, a.eval x)) = some C' ∧ CR c h w cs' C'
  | [], l, cs, C, hl, hc, hp => by
    simp only [List.mapM_nil, Option.pure_def, Option.some.injEq] at hl
    subst hl
    exact ⟨cs, C, hp, rfl, hc⟩
  | (j, x) :: ps, l, cs, C, hl, hc, hp => by
    simp only [List.mapM_cons, Option.bind_eq_bind, Option.pure_def, Option.bind_eq_some_iff, Option.map_eq_some_iff, Option.some.injEq] at hl
    obtain ⟨y, ⟨⟨off, sz⟩, hpl, rfl⟩, l', hl', rfl⟩ := hl
    simp only [fillParts, evK_eq] at hp
    obtain ⟨hu, hp⟩ := cellsK_iff.1 hp
    replace hp := asr_iff.1 hp
    obtain ⟨hsz, hp⟩ := hp
    simp only [Bool.and_eq_true] at hsz
    obtain ⟨hsz, hlen⟩ := hsz
    have hsz := Nat.eq_of_beq_eq_true hsz
    have hlen := Nat.le_of_ble_eq_true hlen
    obtain ⟨hfit, hp⟩ := setRun_iff.1 hp
    obtain ⟨hy1, hy2⟩ := vcells (he.ev x) hu
    obtain ⟨C1, h1, h2, h3⟩ := fill_cons place C j off sz (a.eval x) (ps.map fun (i, x) => (i, a.eval x)) hpl (by omega) (by rw [hc.1]; omega)
    obtain ⟨cs', C', hk, hf, hcr⟩ := fillParts_run he place ps l' _ C1 hl' ⟨by rw [h2, setAll_length]; exact hc.1, fun i v z hv hz => by
      rw [h3] at hz
      by_cases hnil : ((cOpd x).ev e).cells = []
      · rw [hnil] at hv
        have : sz = 0 := by rw [← hsz, hnil]; rfl
        rw [if_neg (by omega)] at hz
        exact hc.2 i v z hv hz
      · have hfit' := hfit.resolve_left hnil
        rw [setAll_get _ _ _ _ hfit'] at hv
        by_cases hin : off ≤ i ∧ i < off + sz
        · rw [if_pos (by omega)] at hv
          rw [if_pos hin] at hz
          exact hy2 _ v z hv hz
        · rw [if_neg (by omega)] at hv
          rw [if_neg hin] at hz
          exact hc.2 i v z hv hz⟩ hp
    exact ⟨cs', C', hk, by rw [List.map_cons, h1]; exact hf, hcr⟩

theorem replK_eq (v : SV) : ∀ (n : Nat) (K : List SV → Prop), replK n v K = K (List.replicate n v)
  | 0, K => rfl
  | n+1, K => by unfold replK; rw [replK_eq v n]; rfl

theorem places_run (fs : Array Field) (hall : fs.toList.all (fun f => (P.info? f.type).isSome) = true) :
    (fs.mapM fun f => (do pure (f.offset, ← Go.sizeOf f.type) : Sem (Nat × Nat))).run P w = .ok (fs.map fun f => (f.offset, P.cellsOf f.type)) w := by
  rw [Array.mapM_eq_mapM_toList]
  have : ∀ l : List Field, l.all (fun f => (P.info? f.type).isSome) = true → (l.mapM fun f => (do pure (f.offset, ← Go.sizeOf f.type) : Sem (Nat × Nat))).run P w = .ok (l.map fun f => (f.offset, P.cellsOf f.type)) w := by
    intro l
    induction l with
    | nil => intro _; simp
    | cons f l ih =>
      intro hl
      simp only [List.all_cons, Bool.and_eq_true] at hl
      obtain ⟨i, hi⟩ := Option.isSome_iff_exists.1 hl.1
      have hc : P.cellsOf f.type = i.size := by simp [Program.cellsOf, hi]
      simp only [List.mapM_cons, Sem.run_bind, sizeOf_run hi, Result.andThen_ok, Sem.run_pure, ih hl.2, hc, List.map_cons]
  rw [Sem.run_map, this fs.toList hall]
  simp only [Result.andThen_ok, ← Array.toList_map, Array.toArray_toList]

theorem sees_build (he : ER c h w e a.tmps) {t : TypeId} {ps : Array (Nat × Operand)} {fs : Array Field} {i : TypeInfo} {z : Value} {l : List (Nat × Nat × AOpd)} (ho : o.op = .build t ps) (hu : P.underlying t = some (.struct fs))
    (hi : P.info? t = some i) (hz : i.zero = some z) (hk : (ofVal 4 z).known = true) (hall : fs.toList.all (fun f => (P.info? f.type).isSome) = true)
    (hl : ps.toList.mapM (fun (j, x) => (fs[j]?).bind fun f => (P.info? f.type).map fun g => (f.offset, g.size, cOpd x)) = some l)
    (hp : aop P Γ (.build (ofVal 4 z).cells l) e h k kp) : Sees P c h w a o k := by
  simp only [aop] at hp
  have hzv : VR c h w (ofVal 4 z) z := .pure (ofVal_vp 4 z)
  obtain ⟨hz1, hz2⟩ := vcells hzv (fun hh => by rw [hh] at hk; cases hk)
  have hl' : ps.toList.mapM (fun (j, x) => (((fs.map fun f => (f.offset, P.cellsOf f.type)) : Array (Nat × Nat))[j]?).map fun (off, sz) => (off, sz, cOpd x)) = some l := by
    rw [← hl]
    congr 1
    funext ⟨j, x⟩
    simp only [Array.getElem?_map]
    cases hf : fs[j]? with
    | none => rfl
    | some f =>
      have hmem : f ∈ fs.toList := by
        rw [← Array.getElem?_toList] at hf
        exact List.mem_of_getElem? hf
      obtain ⟨i, hi⟩ := Option.isSome_iff_exists.1 (List.all_eq_true.1 hall f hmem)
      simp [hi, Program.cellsOf]
  obtain ⟨cs', C', hk', hf, hcr⟩ := fillParts_run he (fun j => (fs.map fun f => (f.offset, P.cellsOf f.type))[j]?) ps.toList l (ofVal 4 z).cells z.cells hl' ⟨hz1, hz2⟩ hp
  refine .of _ (.agg C') hk' ?_ (.agg _ _ hcr.1 hcr.2)
  have hpl : (ps.map fun (i, x) => (i, a.eval x)).toList = ps.toList.map fun (i, x) => (i, a.eval x) := by simp
  simp only [execOp, ho, Instr.build, Sem.run_bind, zero_run hi hz, Result.andThen_ok, run_underlying hu, places_run fs hall, hpl, hf]
  rfl

/-- Elements, each of so many cells. -/
def LR (c : Cx) (h : Heap) (w : World) (sz : Nat) (elems : List SV) (C : Array Value) : Prop :=
  C.size = elems.length * sz ∧ (∀ v ∈ elems, v.cells.length = sz) ∧ ∀ (i j : Nat) (e v : SV) (x : Value), elems[i]? = some e → e.cells[j]? = some v → C[i * sz + j]? = some x → VR c h w v x

theorem fillElems_run (he : ER c h w e a.tmps) (sz : Nat) {K : List SV → Prop} : ∀ (ps : List (Nat × Operand)) (cs : List SV) (C : Array Value),
    LR c h w sz cs C → fillElems sz e (ps.map fun (j, x) => (j, cOpd x)) cs K →
    ∃ cs' C', K cs' ∧ Instr.fill (fun i => some (i * sz, sz)) C (ps.map fun (i, x) => (i, a.eval x)) = some C' ∧ LR c h w sz cs' C' ∧ cs'.length = cs.length
  | [], cs, C, hc, hp => ⟨cs, C, hp, rfl, hc, rfl⟩
  | (p, x) :: ps, cs, C, hc, hp => by
    simp only [List.map_cons, fillElems, evK_eq] at hp
    obtain ⟨hu, hp⟩ := cellsK_iff.1 hp
    replace hp := asr_iff.1 hp
    obtain ⟨hsz, hp⟩ := hp
    have hsz := Nat.eq_of_beq_eq_true hsz
    obtain ⟨hidx, hp⟩ := setL_iff.1 hp
    obtain ⟨hy1, hy2⟩ := vcells (he.ev x) hu
    have e0 : (p + 1) * sz ≤ cs.length * sz := Nat.mul_le_mul_right _ hidx
    rw [Nat.succ_mul] at e0
    obtain ⟨C1, h1, h2, h3⟩ := fill_cons (fun i => some (i * sz, sz)) C p (p * sz) sz (a.eval x) (ps.map fun (i, x) => (i, a.eval x)) rfl (by omega) (by rw [hc.1]; omega)
    obtain ⟨cs', C', hk, hf, hcr, hlen⟩ := fillElems_run he sz ps (cs.set p ((cOpd x).ev e)) C1 ⟨by rw [h2, hc.1]; simp, fun v hv => by
        rcases List.mem_or_eq_of_mem_set hv with hv | rfl
        · exact hc.2.1 v hv
        · exact hsz, fun i j ee v z hee hv hz => by
        rw [h3] at hz
        rw [List.getElem?_set] at hee
        by_cases hpi : p = i
        · subst hpi
          rw [if_pos rfl, if_pos hidx] at hee
          cases hee
          have hj : j < sz := by
            rw [← hsz]
            rcases Nat.lt_or_ge j ((cOpd x).ev e).cells.length with h | h
            · exact h
            · rw [List.getElem?_eq_none h] at hv; cases hv
          rw [if_pos (by omega)] at hz
          have : p * sz + j - p * sz = j := by omega
          rw [this] at hz
          exact hy2 j v z hv hz
        · rw [if_neg hpi] at hee
          have hj : j < sz := by
            rw [← hc.2.1 ee (List.mem_of_getElem? hee)]
            rcases Nat.lt_or_ge j ee.cells.length with h | h
            · exact h
            · rw [List.getElem?_eq_none h] at hv; cases hv
          have hout : ¬ (p * sz ≤ i * sz + j ∧ i * sz + j < p * sz + sz) := by
            intro ⟨q1, q2⟩
            rcases Nat.lt_or_gt_of_ne hpi with hlt | hlt
            · have : (p + 1) * sz ≤ i * sz := Nat.mul_le_mul_right _ hlt
              rw [Nat.succ_mul] at this
              omega
            · have : (i + 1) * sz ≤ p * sz := Nat.mul_le_mul_right _ hlt
              rw [Nat.succ_mul] at this
              omega
          rw [if_neg hout] at hz
          exact hc.2.2 i j ee v z hee hv hz⟩ hp
    exact ⟨cs', C', hk, by rw [List.map_cons, h1]; exact hf, hcr, by rw [hlen]; simp⟩

/-- A row of zero values. -/
theorem zeros_lr {z : Value} {sz : Nat} (hz : VR c h w (ofVal 4 z) z) (hk : (ofVal 4 z).known = true) (hs : (ofVal 4 z).cells.length = sz) (n : Nat) :
    LR c h w sz (List.replicate n (ofVal 4 z)) ((Array.range (n * sz)).map (z.cells[· % z.cells.size]!)) := by
  obtain ⟨h1, h2⟩ := vcells hz (fun hh => by rw [hh] at hk; cases hk)
  refine ⟨by simp, fun v hv => by rw [(List.mem_replicate.1 hv).2]; exact hs, fun i j ee v x he hv hx => ?_⟩
  obtain ⟨hi, rfl⟩ : i < n ∧ ofVal 4 z = ee := by
    rw [List.getElem?_replicate] at he
    split at he
    · rename_i h; exact ⟨h, Option.some.inj he⟩
    · cases he
  have hj : j < sz := by
    rw [← hs]
    rcases Nat.lt_or_ge j (ofVal 4 z).cells.length with h | h
    · exact h
    · rw [List.getElem?_eq_none h] at hv; cases hv
  have hzs : z.cells.size = sz := h1.trans hs
  have e0 : (i + 1) * sz ≤ n * sz := Nat.mul_le_mul_right _ hi
  rw [Nat.succ_mul] at e0
  have hmod : (i * sz + j) % z.cells.size = j := by rw [hzs, Nat.mul_comm, Nat.mul_add_mod, Nat.mod_eq_of_lt hj]
  have hjz : j < z.cells.size := by omega
  simp only [Array.getElem?_map, Array.getElem?_range] at hx
  rw [if_pos (by omega)] at hx
  simp only [Option.map_some, hmod, Option.some.injEq] at hx
  refine h2 j v x hv ?_
  rw [← hx]
  simp [hjz]

theorem range0 {α : Type} (f : Nat → α) : (Array.range 0).map f = #[] := Array.eq_empty_of_size_eq_zero (by simp)

theorem does_row (hr : Rep c h w) {sz len cap : Nat} {elems : List SV} {C : Array Value} {el : TypeId} (hlr : LR c h w sz elems C) (hlen : elems.length = cap) (hlc : len ≤ cap)
    (hrun : (execOp a.eval o).run P w = .ok (.value (.slice (some ⟨w.heap.size, 0, none⟩) len cap)) (w.alloc (.cells C el)))
    (hp : match h with | ⟨m, l⟩ => k (.sl m 0 sz 0 len (some cap)) ⟨m + 1, (m, .vec 0 sz elems ⟨false, some el⟩) :: l⟩) : Does P c h w a o k := by
  obtain ⟨n, l⟩ := h
  exact ⟨_, _, _, _, _, hp, .inl hrun, push_vec hr sz elems C el hlr.1.symm hlr.2.1 hlr.2.2, ext_push hr _ _, sl_new (heap_new _ _) hlc (by rw [hlr.1, hlen]; exact Nat.le_refl _)⟩

theorem buildSlice_run {P : Program} {w : World} {a : Act} {o : Oper} {t el : TypeId} {n : Nat} {ps : Array (Nat × Operand)} {i : TypeInfo} {z : Value} {C' : Array Value} (ho : o.op = .buildSlice t n ps) (hu : P.underlying t = some (.slice el))
    (hi : P.info? el = some i) (hz : i.zero = some z) (hn : n * i.size ≤ 16777216)
    (hf : Instr.fill (fun j => some (j * i.size, i.size)) ((Array.range (n * i.size)).map (z.cells[· % z.cells.size]!)) (ps.toList.map fun (j, x) => (j, a.eval x)) = some C') :
    (execOp a.eval o).run P w = .ok (.value (.slice (some ⟨w.heap.size, 0, none⟩) n n)) (w.alloc (.cells C' el)) := by
  have hpl : (ps.map fun (i, x) => (i, a.eval x)).toList = ps.toList.map fun (i, x) => (i, a.eval x) := by simp
  simp only [execOp, ho, Instr.buildSlice, Sem.run_bind, run_underlying hu, Result.andThen_ok, sizeOf_run hi]
  rw [if_neg (by omega)]
  by_cases h0 : n * i.size = 0
  · rw [if_pos h0]
    rw [h0] at hf
    simp only [range0] at hf
    simp only [Sem.run_bind, Sem.run_pure, Result.andThen_ok, h0, range0, hpl, hf]
    simp [newRow]
  · rw [if_neg h0]
    simp only [Sem.run_bind, zero_run hi hz, Sem.run_pure, Result.andThen_ok, hpl, hf]
    simp [newRow]

theorem does_buildSlice (hr : Rep c h w) (he : ER c h w e a.tmps) {t el : TypeId} {n : Nat} {ps : Array (Nat × Operand)} {i : TypeInfo} {z : Value} (ho : o.op = .buildSlice t n ps) (hu : P.underlying t = some (.slice el))
    (hi : P.info? el = some i) (hz : i.zero = some z) (hn : n * i.size ≤ 16777216) (hs : (ofVal 4 z).cells.length = i.size) (hk : (ofVal 4 z).known = true)
    (hp : aop P Γ (.buildSlice el i.size (ofVal 4 z) n (ps.toList.map fun (j, x) => (j, cOpd x))) e h k kp) : Does P c h w a o k := by
  simp only [aop, replK_eq] at hp
  have hzv : VR c h w (ofVal 4 z) z := .pure (ofVal_vp 4 z)
  obtain ⟨cs', C', hk', hf, hlr, hlen⟩ := fillElems_run he i.size ps.toList _ _ (zeros_lr hzv hk hs n) hp
  refine does_row hr hlr (len := n) (cap := n) (by simpa using hlen) (Nat.le_refl _) (el := el) (buildSlice_run ho hu hi hz hn hf) hk'

theorem wrap_i64 {n : Int} (h0 : -9223372036854775808 ≤ n) (h1 : n ≤ 9223372036854775807) : IntKind.i64.wrap n = n :=
  IntWalk.i64_in n ⟨h0, h1⟩

theorem does_makeSlice (hr : Rep c h w) (he : ER c h w e a.tmps) {t el : TypeId} {x y : Operand} {i : TypeInfo} {z : Value} (ho : o.op = .makeSlice t x y) (hu : P.underlying t = some (.slice el))
    (hi : P.info? el = some i) (hz : i.zero = some z) (hs : (ofVal 4 z).cells.length = i.size) (hk : (ofVal 4 z).known = true)
    (hp : aop P Γ (.makeSlice el i.size i.bytes (ofVal 4 z) (cOpd x) (cOpd y)) e h k kp) : Does P c h w a o k := by
  simp only [aop, evK_eq] at hp
  have hx := he.ev x
  have hy := he.ev y
  split at hp
  · rename_i k1 n k2 m h1 h2
    rw [h1] at hx; rw [h2] at hy
    replace hp := asr_iff.1 hp
    obtain ⟨hb, hp⟩ := hp
    simp only [Bool.and_eq_true, decide_eq_true_eq] at hb
    obtain ⟨⟨⟨b0, b1⟩, b2⟩, b3⟩ := hb
    have hzv : VR c h w (ofVal 4 z) z := .pure (ofVal_vp 4 z)
    refine does_row hr (zeros_lr hzv hk hs m.toNat) (len := n.toNat) (cap := m.toNat) (by simp) (by omega) (el := el) ?_ hp
    have hwn := wrap_i64 (n := n) (by omega) (by omega)
    have hwm := wrap_i64 (n := m) (by omega) (by omega)
    have ht1 : ¬ (m < 0) := by omega
    have ht2 : ¬ ((i.bytes : Int) * m > 2 ^ 48) := by
      have : (2 : Int) ^ 48 = 281474976710656 := by decide
      omega
    have hcond : (decide (m < 0) || decide ((i.bytes : Int) * m > 2 ^ 48) || decide (n < 0) || decide (n > m)) = false := by
      simp only [Bool.or_eq_false_iff, decide_eq_false_iff_not]
      exact ⟨⟨⟨ht1, ht2⟩, by omega⟩, by omega⟩
    simp only [execOp, ho, Instr.makeSlice, hx.int_inv, hy.int_inv, asInt, asIntOf, Sem.run_bind, Sem.run_pure, run_underlying hu, Result.andThen_ok, typeInfo, hi, run_program, hwn, hwm]
    rw [if_neg (by rw [hcond]; decide)]
    simp only [Sem.run_bind, run_askRoom, sizeOf_run hi, Result.andThen_ok]
    by_cases h0 : m.toNat * i.size = 0
    · rw [if_pos h0]
      simp [newRow, h0, range0]
    · rw [if_neg h0]
      simp [zero_run hi hz, newRow]
  · exact hp.elim
end
end Ab
namespace Ab
set_option linter.unusedVariables false
set_option linter.unusedSimpArgs false
open Go
section
variable {P : Program} {c : Cx} {h : Heap} {w : World} {e : Env} {a : Act} {o : Oper} {k kp : SV → Heap → Prop}

theorem rangeK_eq (get : Nat → SV) : ∀ (n j : Nat) (K : List SV → Prop), rangeK get n j K = K ((List.range' j n).map get)
  | 0, _, _ => rfl
  | n+1, j, K => by unfold rangeK; rw [rangeK_eq get n]; rfl
theorem strK_eq : ∀ (s : List UInt8) (K : List SV → Prop), strK s K = K (s.map fun b => .int .u8 b.toNat)
  | [], _ => rfl
  | b :: r, K => by unfold strK; rw [strK_eq r]; rfl
theorem appL_eq : ∀ (l m : List SV) (K : List SV → Prop), appL l m K = K (l ++ m)
  | [], _, _ => rfl
  | v :: r, m, K => by unfold appL; rw [appL_eq r]; rfl

/-- A list of elements and the cells that they lie in. -/
def LW (c : Cx) (h : Heap) (w : World) (sz : Nat) (elems : List SV) (vals : List Value) : Prop :=
  vals.length = elems.length * sz ∧ (∀ v ∈ elems, v.cells.length = sz) ∧ ∀ (i j : Nat) (e v : SV) (x : Value), elems[i]? = some e → e.cells[j]? = some v → vals[i * sz + j]? = some x → VR c h w v x

theorem getq_lt {α : Type} {l : List α} {i : Nat} {v : α} (h : l[i]? = some v) : i < l.length := by
  rcases Nat.lt_or_ge i l.length with h' | h'
  · exact h'
  · rw [List.getElem?_eq_none h'] at h; cases h
theorem idx_lt {sz i j n : Nat} (hi : i < n) (hj : j < sz) : i * sz + j < n * sz := by
  have : (i + 1) * sz ≤ n * sz := Nat.mul_le_mul_right _ hi
  rw [Nat.succ_mul] at this
  omega

theorem LW.append {sz : Nat} {es fs : List SV} {vs us : List Value} (h1 : LW c h w sz es vs) (h2 : LW c h w sz fs us) : LW c h w sz (es ++ fs) (vs ++ us) := by
  refine ⟨by rw [List.length_append, List.length_append, h1.1, h2.1, Nat.add_mul], fun v hv => ?_, fun i j e v x he hv hx => ?_⟩
  · rcases List.mem_append.1 hv with hv | hv
    · exact h1.2.1 v hv
    · exact h2.2.1 v hv
  · have hj : j < sz := by
      have hlen : e.cells.length = sz := by
        rcases List.mem_append.1 (List.mem_of_getElem? he) with hm | hm
        · exact h1.2.1 e hm
        · exact h2.2.1 e hm
      rw [← hlen]; exact getq_lt hv
    rw [List.getElem?_append] at he hx
    by_cases hi : i < es.length
    · rw [if_pos hi] at he
      rw [if_pos (by rw [h1.1]; exact idx_lt hi hj)] at hx
      exact h1.2.2 i j e v x he hv hx
    · rw [if_neg hi] at he
      have hge : es.length * sz ≤ i * sz := Nat.mul_le_mul_right _ (Nat.le_of_not_lt hi)
      rw [if_neg (by rw [h1.1]; omega)] at hx
      refine h2.2.2 (i - es.length) j e v x he hv ?_
      rw [← hx, h1.1, Nat.sub_mul]
      congr 1
      omega

theorem LW.one {sz : Nat} {xs : List SV} {news : List Value} (hl : LW c h w sz xs news) (h1 : allOnes xs = true) : ∀ u ∈ news, u.oneCell' = true := by
  intro u hu
  obtain ⟨p, hp⟩ := List.mem_iff_getElem?.1 hu
  have hlt := getq_lt hp
  rw [hl.1] at hlt
  have hsz : 0 < sz := by
    rcases Nat.eq_zero_or_pos sz with h0 | h0
    · subst h0; omega
    · exact h0
  have hi : p / sz < xs.length := (Nat.div_lt_iff_lt_mul hsz).2 hlt
  have he : xs[p / sz]? = some xs[p / sz] := List.getElem?_eq_getElem hi
  have hmem := List.getElem_mem hi
  have hj : p % sz < xs[p / sz].cells.length := by rw [hl.2.1 _ hmem]; exact Nat.mod_lt _ hsz
  have hv : xs[p / sz].cells[p % sz]? = some xs[p / sz].cells[p % sz] := List.getElem?_eq_getElem hj
  have hpe : p / sz * sz + p % sz = p := by rw [Nat.mul_comm]; exact Nat.div_add_mod p sz
  refine (hl.2.2 (p / sz) (p % sz) _ _ u he hv (by rw [hpe]; exact hp)).one (allOne_mem ?_ _ (List.getElem_mem hj))
  have key : ∀ {l : List SV}, allOnes l = true → ∀ v ∈ l, allOne v.cells = true := by
    intro l
    induction l with
    | nil => intro _ v hv; cases hv
    | cons x r ih =>
      intro hall v hv
      simp only [allOnes, Bool.and_eq_true] at hall
      rcases List.mem_cons.1 hv with rfl | hv
      · exact hall.1
      · exact ih hall.2 v hv
  exact key h1 _ hmem

/-- A stretch of a named row. -/
theorem row_cells (hr : Rep c h w) {i g sz : Nat} {elems : List SV} {sk : Sk} (ho : h.obj i = some (.vec g sz elems sk)) {off len : Nat} (hle : off + len ≤ elems.length) :
    ∃ vals, LW c h w sz ((elems.drop off).take len) vals ∧ vals.length = len * sz ∧ ∀ j u, vals[j]? = some u → w.cell? ((⟨c.β i, off * sz, none⟩ : Addr).add j) = some u := by
  cases hr.obj i _ ho with
  | vec _ _ _ _ C ty fz hw hleC heq hty hc hf hcell =>
    have e1 : (off + len) * sz ≤ elems.length * sz := Nat.mul_le_mul_right _ hle
    rw [Nat.add_mul] at e1
    have hlen : ((elems.drop off).take len).length = len := by simp; omega
    have hvl : ((C.toList.drop (off * sz)).take (len * sz)).length = len * sz := by simp; omega
    refine ⟨(C.toList.drop (off * sz)).take (len * sz), ⟨by rw [hlen, hvl], fun v hv => hc v (List.mem_of_mem_drop (List.mem_of_mem_take hv)), fun p j e v x he hv hx => ?_⟩, hvl, fun j u hu => ?_⟩
    · have hp : p < len := by have := getq_lt he; omega
      rw [List.getElem?_take, if_pos hp, List.getElem?_drop] at he
      have hlx := getq_lt hx
      rw [List.getElem?_take, if_pos (by omega), List.getElem?_drop] at hx
      refine hcell (off + p) j e v x he hv ?_
      rw [Nat.add_mul, Nat.add_assoc, ← Array.getElem?_toList]
      exact hx
    · have hlu := getq_lt hu
      rw [List.getElem?_take, if_pos (by omega), List.getElem?_drop, Array.getElem?_toList] at hu
      rw [add_eq]
      simp only [World.cell?, hw]
      exact hu

theorem src_bytes {tx : TypeId} (hk : (∃ e', P.underlying tx = some (.slice e')) ∨ P.underlying tx = some .string) (s : ByteArray) : Src P 1 tx (.string s) s.size (byteCells s) w :=
  ⟨hk, fun _ => rfl, firstCells_string s w, firstCells_string s w.drew, by rw [byteCells_length, Nat.mul_one], fun u hu => by
    obtain ⟨_, _, rfl⟩ := List.mem_map.1 hu
    rfl⟩

/-- What is appended. -/
theorem elemsK_src (hr : Rep c h w) {x : SV} {y : Value} (hv : VR c h w x y) {sz : Nat} {K : List SV → Prop} (hp : elemsK h sz x K) {tx : TypeId} (hk : (∃ e', P.underlying tx = some (.slice e')) ∨ P.underlying tx = some .string) :
    ∃ xs news, K xs ∧ LW c h w sz xs news ∧ ((∀ u ∈ news, u.oneCell' = true) → Src P sz tx y xs.length news w) ∧ (∀ u, y = .string u → sz = 1 ∧ news = byteCells u) := by
  unfold elemsK at hp
  have hslice : ∀ (ad : Addr) (n cc : Nat) (xs : List SV) (news : List Value), y = .slice (some ad) n cc → xs.length = n → LW c h w sz xs news → (∀ j u, news[j]? = some u → w.cell? (ad.add j) = some u) →
      ((∀ u ∈ news, u.oneCell' = true) → Src P sz tx y xs.length news w) := by
    intro ad n cc xs news hy hn hl hcell h1
    subst hy; subst hn
    exact ⟨hk, fun _ => rfl, run_firstCells_some w sz _ ad _ cc news hl.1 hcell, run_firstCells_some w.drew sz _ ad _ cc news hl.1 (by simpa using hcell), hl.1, h1⟩
  have hnone : LW c h w sz [] [] := ⟨by simp, fun v hv => by simp at hv, fun i j e v x he => by simp at he⟩
  have hzero : ∀ (ad : Option Addr) (cc : Nat), y = .slice ad 0 cc → ((∀ u ∈ ([] : List Value), u.oneCell' = true) → Src P sz tx y ([] : List SV).length [] w) := by
    intro ad cc hy h1
    cases ad with
    | none =>
      subst hy
      exact ⟨hk, fun _ => rfl, run_firstCells_none w sz 0 0 cc, run_firstCells_none w.drew sz 0 0 cc, by simp, h1⟩
    | some ad => exact hslice ad 0 cc [] [] hy rfl hnone (fun j u hu => by simp at hu) h1
  split at hp
  · have hy := hv.nils_inv
    exact ⟨[], [], hp, hnone, hzero none 0 hy, fun u hu => by rw [hy] at hu; cases hu⟩
  · rename_i s
    replace hp := asr_iff.1 hp
    obtain ⟨hsz, hp⟩ := hp
    have hsz := Nat.eq_of_beq_eq_true hsz
    subst hsz
    rw [strK_eq] at hp
    have hy := hv.str_inv
    refine ⟨_, byteCells ⟨s.toArray⟩, hp, ⟨by simp [byteCells], fun v hv => ?_, fun i j e v x he hv hx => ?_⟩, fun h1 => ?_, fun u hu => ⟨rfl, by rw [hy] at hu; cases hu; rfl⟩⟩
    · obtain ⟨b, _, rfl⟩ := List.mem_map.1 hv; rfl
    · rw [List.getElem?_map] at he
      cases hb : s[i]? with
      | none => rw [hb] at he; cases he
      | some b =>
        rw [hb] at he
        simp only [Option.map_some, Option.some.injEq] at he
        subst he
        cases j with
        | zero =>
          simp only [SV.cells, List.getElem?_cons_zero, Option.some.injEq] at hv
          subst hv
          simp only [byteCells, Nat.mul_one, Nat.add_zero, List.getElem?_map, hb, Option.map_some, Option.some.injEq] at hx
          subst hx
          exact .int
        | succ j => simp [SV.cells] at hv
    · have hs := src_bytes (P := P) (w := w) hk ⟨s.toArray⟩
      rw [hy]
      have e1 : (s.map fun b => SV.int .u8 b.toNat).length = (⟨s.toArray⟩ : ByteArray).size := by simp [ByteArray.size]
      rw [e1]
      exact hs
  · rename_i sz' n get
    replace hp := asr_iff.1 hp
    obtain ⟨hsz, hp⟩ := hp
    have hsz := Nat.eq_of_beq_eq_true hsz
    subst hsz
    rw [rangeK_eq] at hp
    obtain ⟨ad, cap, hy, hnc, hor⟩ := hv.lst_inv
    rcases hor with rfl | ⟨b, off, C, ty, fz, rfl, hb, hw, hn, hc, hcell⟩
    · exact ⟨_, [], hp, hnone, hzero ad cap hy, fun u hu => by rw [hy] at hu; cases hu⟩
    · have hvl : ((C.toList.drop off).take (n * sz')).length = n * sz' := by simp; omega
      have hgl : ∀ (p : Nat) (e : SV), ((List.range' 0 n).map get)[p]? = some e → p < n ∧ e = get p := by
        intro p e he
        rw [List.getElem?_map] at he
        have hp' : p < n := by
          rcases Nat.lt_or_ge p n with h | h
          · exact h
          · rw [List.getElem?_eq_none (by simpa using h)] at he; cases he
        rw [List.getElem?_range' hp'] at he
        simp at he
        exact ⟨hp', he.symm⟩
      have hL : LW c h w sz' ((List.range' 0 n).map get) ((C.toList.drop off).take (n * sz')) := by
        refine ⟨by rw [hvl]; simp, fun v hv => ?_, fun p j e v x he hv hx => ?_⟩
        · obtain ⟨p, hp⟩ := List.mem_iff_getElem?.1 hv
          obtain ⟨h1, rfl⟩ := hgl p v hp
          exact hc p h1
        · obtain ⟨h1, rfl⟩ := hgl p e he
          have hlx := getq_lt hx
          rw [List.getElem?_take, if_pos (by omega), List.getElem?_drop, Array.getElem?_toList] at hx
          exact .pure (hcell p j v x h1 hv (by rw [Nat.add_assoc]; exact hx))
      refine ⟨_, _, hp, hL, hslice _ _ _ _ _ hy (by simp) hL fun j u hu => ?_, fun u hu => by rw [hy] at hu; cases hu⟩
      have hlu := getq_lt hu
      rw [List.getElem?_take, if_pos (by omega), List.getElem?_drop, Array.getElem?_toList] at hu
      rw [add_eq]
      simp only [World.cell?, hw]
      exact hu
  · rename_i i g sz' off len cap
    replace hp := asr_iff.1 hp
    obtain ⟨hsz, hp⟩ := hp
    have hsz := Nat.eq_of_beq_eq_true hsz
    subst hsz
    obtain ⟨n, l⟩ := h
    simp only [lookO_eq] at hp
    split at hp
    · rename_i ob hob
      split at hp
      · rename_i g' szo elems sk
        replace hp := asr_iff.1 hp
        obtain ⟨hg, hp⟩ := hp
        have hg := Nat.eq_of_beq_eq_true hg
        obtain ⟨hle, hp⟩ := dropN_iff.1 hp
        obtain ⟨hle2, hp⟩ := takeN_iff.1 hp
        simp only [List.length_drop] at hle2
        obtain ⟨hsz', ad, cc, hy, hlc, _, hor⟩ := hv.sl_inv (o := .vec g' szo elems sk) hob hg
        simp only [AObj.sz] at hsz'
        subst hsz'
        rcases hor with h0 | ⟨rfl, ty, m, hsh, hle'⟩
        · have hl0 : len = 0 := by omega
          subst hl0
          simp only [List.take_zero] at hp
          exact ⟨[], [], hp, hnone, hzero _ cc hy, fun u hu => by rw [hy] at hu; cases hu⟩
        · obtain ⟨vals, hL, hvl, hcl⟩ := row_cells hr (i := i) (g := g') (sz := szo) (elems := elems) (sk := sk) hob (off := off) (len := len) (by omega)
          exact ⟨_, vals, hp, hL, hslice _ _ _ _ _ hy (by simp; omega) hL hcl, fun u hu => by rw [hy] at hu; cases hu⟩
      · exact hp.elim
    · exact hp.elim
  · exact hp.elim
end
end Ab
namespace Ab
set_option linter.unusedVariables false
set_option linter.unusedSimpArgs false
open Go
section
variable {P : Program} {Γ : CallR} {c : Cx} {h : Heap} {w : World} {e : Env} {a : Act} {o : Oper} {k kp : SV → Heap → Prop}

theorem drew_ext : Ext c h w c h w.drew :=
  ⟨rfl, rfl, rfl, Nat.le_refl _, fun _ _ _ => rfl, fun _ _ => rfl, fun _ h => h, fun _ h => .inl h, Nat.le_refl _, fun _ o' _ h => ⟨o', h, Nat.le_refl _, rfl, fun _ => rfl⟩, fun _ o' h => .inr ⟨o', h, rfl⟩⟩
theorem drew_rep (hr : Rep c h w) : Rep c h w.drew :=
  ⟨hr.lt, fun i o ho => (hr.obj i o ho).mono hr drew_ext rfl, hr.inj, hr.apart, hr.im, hr.globx drew_ext⟩

/-- A named row written in place; its names may grow old by it. -/
theorem ext_put2 {n : Nat} {l : List (Nat × AObj)} {i g g2 sz : Nat} {elems elems' : List SV} {sk sk2 : Sk} {w' : World} (ho : objL l i = some (.vec g sz elems sk)) (hg : g ≤ g2)
    (e1 : w'.os = w.os) (e2 : w'.tape = w.tape) (e3 : w'.output = w.output) (e4 : w'.heap.size = w.heap.size) (e5 : ∀ b', b' ≠ c.β i → w'.heap[b']? = w.heap[b']?) (e6 : w'.shape? (c.β i) = w.shape? (c.β i)) :
    Ext c ⟨n, l⟩ w c ⟨n, putO l i (.vec g2 sz elems' sk2)⟩ w' where
  os := e1
  tape := e2
  output := e3
  size := by omega
  frame b hb hn := e5 b (fun e => hn i _ ho e.symm)
  shape b hb := by
    by_cases h : b = c.β i
    · rw [h]; exact e6
    · simp only [World.shape?, e5 b h]
  im _ hb := hb
  im' _ hb := .inl hb
  nxt := Nat.le_refl _
  old j o' hj ho' := by
    simp only [Heap.obj, objL_put] at ho'
    by_cases h : j = i
    · subst h
      rw [if_pos rfl, ho] at ho'
      cases ho'
      exact ⟨_, ho, hg, rfl, fun _ => rfl⟩
    · rw [if_neg h] at ho'
      exact ⟨o', ho', Nat.le_refl _, rfl, fun _ => rfl⟩
  new j o' ho' := by
    simp only [Heap.obj, objL_put] at ho'
    by_cases h : j = i
    · subst h; exact .inr ⟨_, ho, rfl⟩
    · rw [if_neg h] at ho'; exact .inr ⟨o', ho', rfl⟩

theorem rep_put2 {n : Nat} {l : List (Nat × AObj)} {i g g2 sz : Nat} {elems elems' : List SV} {sk sk2 : Sk} {w' : World} {C' : Array Value} {ty : TypeId} {fz : Nat × Nat} (hr : Rep c ⟨n, l⟩ w) (ho : objL l i = some (.vec g sz elems sk))
    (hx : Ext c ⟨n, l⟩ w c ⟨n, putO l i (.vec g2 sz elems' sk2)⟩ w') (e4 : w'.heap.size = w.heap.size) (e5 : ∀ b', b' ≠ c.β i → w'.heap[b']? = w.heap[b']?) (e6 : w'.heap[c.β i]? = some (.cells C' ty fz))
    (hle : elems'.length * sz ≤ C'.size) (heq : sk2.slack = false → elems'.length * sz = C'.size) (hty : ∀ t, sk2.ty = some t → t = ty) (hc : ∀ v ∈ elems', v.cells.length = sz) (hf : ∀ k, k < C'.size → ¬ (fz.1 ≤ k ∧ k < fz.2))
    (hcell : ∀ (p j : Nat) (e v : SV) (x : Value), elems'[p]? = some e → e.cells[j]? = some v → C'[p * sz + j]? = some x → VR c ⟨n, l⟩ w v x) : Rep c ⟨n, putO l i (.vec g2 sz elems' sk2)⟩ w' := by
  have key : ∀ j o', (Heap.mk n (putO l i (.vec g2 sz elems' sk2))).obj j = some o' → (j = i ∧ o' = .vec g2 sz elems' sk2) ∨ (j ≠ i ∧ objL l j = some o') := by
    intro j o' ho'
    simp only [Heap.obj, objL_put] at ho'
    by_cases h : j = i
    · rw [if_pos h, ho] at ho'; cases ho'; exact .inl ⟨h, rfl⟩
    · rw [if_neg h] at ho'; exact .inr ⟨h, ho'⟩
  have key2 : ∀ j o', (Heap.mk n (putO l i (.vec g2 sz elems' sk2))).obj j = some o' → ∃ o'', objL l j = some o'' := by
    intro j o' ho'
    rcases key j o' ho' with ⟨rfl, _⟩ | ⟨_, h⟩
    · exact ⟨_, ho⟩
    · exact ⟨_, h⟩
  refine ⟨fun j o' ho' => ?_, fun j o' ho' => ?_, fun j j' o' p' ho' hp' he => ?_, fun j o' ho' => ?_, fun b hb => ?_, hr.globx hx⟩
  · obtain ⟨o'', h⟩ := key2 j o' ho'; exact hr.lt j o'' h
  · rcases key j o' ho' with ⟨rfl, rfl⟩ | ⟨hj, h⟩
    · exact .vec g2 sz elems' sk2 C' ty fz e6 hle heq hty hc hf fun p j' e v x h1 h2 h3 => (hcell p j' e v x h1 h2 h3).mono hr hx
    · exact (hr.obj j o' h).mono hr hx (e5 _ fun he => hj (hr.inj j i _ _ h ho he))
  · obtain ⟨o'', h⟩ := key2 j o' ho'
    obtain ⟨p'', h'⟩ := key2 j' p' hp'
    exact hr.inj j j' _ _ h h' he
  · obtain ⟨o'', h⟩ := key2 j o' ho'; exact hr.apart j o'' h
  · rw [e4]; exact hr.im b hb

/-- A named row that moved: its name means the new block from now on. -/
theorem ext_move {n : Nat} {l : List (Nat × AObj)} {i g sz : Nat} {elems elems' : List SV} {sk sk2 : Sk} (ho : objL l i = some (.vec g sz elems sk)) (cb : Obj) :
    Ext c ⟨n, l⟩ w (c.push i w.heap.size) ⟨n, putO l i (.vec (g + 1) sz elems' sk2)⟩ (w.alloc cb) where
  os := rfl
  tape := rfl
  output := rfl
  size := by rw [heap_size]; omega
  frame b hb _ := heap_push w cb b hb
  shape b hb := by simp only [World.shape?, heap_push w cb b hb]
  im _ hb := hb
  im' _ hb := .inl hb
  nxt := Nat.le_refl _
  old j o' hj ho' := by
    simp only [Heap.obj, objL_put] at ho'
    by_cases h : j = i
    · subst h
      rw [if_pos rfl, ho] at ho'
      cases ho'
      exact ⟨_, ho, Nat.le_succ _, rfl, fun e => by simp [AObj.gen] at e⟩
    · rw [if_neg h] at ho'
      exact ⟨o', ho', Nat.le_refl _, rfl, fun _ => by simp [Cx.push, h]⟩
  new j o' ho' := by
    simp only [Heap.obj, objL_put] at ho'
    by_cases h : j = i
    · subst h; left; simp [Cx.push]
    · rw [if_neg h] at ho'; exact .inr ⟨o', ho', by simp [Cx.push, h]⟩

theorem rep_move {n : Nat} {l : List (Nat × AObj)} {i g sz : Nat} {elems elems' : List SV} {sk : Sk} {C' : Array Value} {ty : TypeId} (hr : Rep c ⟨n, l⟩ w) (ho : objL l i = some (.vec g sz elems sk))
    {tyo : Option TypeId} (hty : ∀ t, tyo = some t → t = ty) (hle : elems'.length * sz ≤ C'.size) (hc : ∀ v ∈ elems', v.cells.length = sz)
    (hcell : ∀ (p j : Nat) (e v : SV) (x : Value), elems'[p]? = some e → e.cells[j]? = some v → C'[p * sz + j]? = some x → VR c ⟨n, l⟩ w v x) :
    Rep (c.push i w.heap.size) ⟨n, putO l i (.vec (g + 1) sz elems' ⟨true, tyo⟩)⟩ (w.alloc (.cells C' ty)) := by
  have hx : Ext c ⟨n, l⟩ w (c.push i w.heap.size) ⟨n, putO l i (.vec (g + 1) sz elems' ⟨true, tyo⟩)⟩ (w.alloc (.cells C' ty)) := ext_move ho _
  have key : ∀ j o', (Heap.mk n (putO l i (.vec (g + 1) sz elems' ⟨true, tyo⟩))).obj j = some o' → (j = i ∧ o' = .vec (g + 1) sz elems' ⟨true, tyo⟩) ∨ (j ≠ i ∧ objL l j = some o') := by
    intro j o' ho'
    simp only [Heap.obj, objL_put] at ho'
    by_cases h : j = i
    · rw [if_pos h, ho] at ho'; cases ho'; exact .inl ⟨h, rfl⟩
    · rw [if_neg h] at ho'; exact .inr ⟨h, ho'⟩
  have hβ : ∀ j, j ≠ i → (c.push i w.heap.size).β j = c.β j := fun j hj => by simp [Cx.push, hj]
  have hβi : (c.push i w.heap.size).β i = w.heap.size := by simp [Cx.push]
  refine ⟨fun j o' ho' => ?_, fun j o' ho' => ?_, fun j j' o' p' ho' hp' he => ?_, fun j o' ho' => ?_, fun b hb => ?_, hr.globx hx⟩
  · rcases key j o' ho' with ⟨rfl, _⟩ | ⟨_, h⟩
    · exact hr.lt _ _ ho
    · exact hr.lt j _ h
  · rcases key j o' ho' with ⟨rfl, rfl⟩ | ⟨hj, h⟩
    · rw [hβi]
      exact .vec (g + 1) sz elems' ⟨true, tyo⟩ C' ty (0, 0) (heap_new _ _) hle (fun e => by cases e) hty hc (by simp) fun p j' e v x h1 h2 h3 => (hcell p j' e v x h1 h2 h3).mono hr hx
    · rw [hβ j hj]
      exact (hr.obj j o' h).mono hr hx (heap_push w _ _ (hr.obj j o' h).lt)
  · rcases key j o' ho' with ⟨rfl, _⟩ | ⟨hj, h⟩ <;> rcases key j' p' hp' with ⟨rfl, _⟩ | ⟨hj', h'⟩
    · rfl
    · rw [hβi, hβ j' hj'] at he
      have := (hr.obj j' p' h').lt
      omega
    · rw [hβi, hβ j hj] at he
      have := (hr.obj j o' h).lt
      omega
    · rw [hβ j hj, hβ j' hj'] at he
      exact hr.inj j j' _ _ h h' he
  · rcases key j o' ho' with ⟨rfl, _⟩ | ⟨hj, h⟩
    · rw [hβi]
      intro hb
      have : w.heap.size < w.heap.size := hr.im _ hb
      omega
    · rw [hβ j hj]; exact hr.apart j o' h
  · rw [heap_size]
    have : b < w.heap.size := hr.im b hb
    omega

theorem sl_at {n : Nat} {l : List (Nat × AObj)} {i g sz len cc : Nat} {elems : List SV} {sk : Sk} {w' : World} {C : Array Value} {ty : TypeId} {fz : Nat × Nat} {cap : Option Nat} {off : Nat} (hi : i < n) (ho : objL l i = some (.vec g sz elems sk))
    (hb : w'.heap[c.β i]? = some (.cells C ty fz)) (hlc : len ≤ cc) (hcap : ∀ k, cap = some k → cc = k) (hC : off * sz + cc * sz ≤ C.size) (hfu : cap = none → off * sz + cc * sz = C.size) : VR c ⟨n, l⟩ w' (.sl i g sz off len cap) (.slice (some ⟨c.β i, off * sz, none⟩) len cc) :=
  .sl _ _ _ _ _ _ _ ⟨_, _, _, rfl⟩ hi (fun o' ho' => by
    have ho'' : objL l i = some o' := ho'
    rw [ho] at ho''; cases ho''; exact Nat.le_refl _) fun o' ho' _ => by
    have ho'' : objL l i = some o' := ho'
    rw [ho] at ho''; cases ho''
    exact ⟨rfl, _, _, rfl, hlc, hcap, .inr ⟨rfl, ty, C.size, by simp [World.shape?, hb], hC⟩, fun h => ⟨ty, C.size, by simp [World.shape?, hb], hfu h⟩⟩

theorem objL_putS (l : List (Nat × AObj)) (i : Nat) (o o' : AObj) (ho : objL l i = some o) : objL (putO l i o') i = some o' := by
  rw [objL_put, if_pos rfl, ho]; rfl

theorem cells_zero {z : Value} {sz : Nat} (hk : (ofVal 4 z).known = true) (hs : (ofVal 4 z).cells.length = sz) : z.cells.size = sz := by
  have hz : VR ⟨fun _ => 0, fun _ => False⟩ ⟨0, []⟩ default (ofVal 4 z) z := .pure (ofVal_vp 4 z)
  exact (vcells hz (fun hh => by rw [hh] at hk; cases hk)).1.trans hs

/-- The cells of a row that grew. -/
theorem grown_cells {sz : Nat} {elems : List SV} {vals : List Value} (hl : LW c h w sz elems vals) (rest : Array Value) : elems.length * sz ≤ (vals.toArray ++ rest).size ∧ (∀ v ∈ elems, v.cells.length = sz) ∧
    ∀ (p j : Nat) (e v : SV) (x : Value), elems[p]? = some e → e.cells[j]? = some v → (vals.toArray ++ rest)[p * sz + j]? = some x → VR c h w v x := by
  refine ⟨by simp [hl.1], hl.2.1, fun p j e v x he hv hx => ?_⟩
  have hj : j < sz := by rw [← hl.2.1 e (List.mem_of_getElem? he)]; exact getq_lt hv
  have hlt : p * sz + j < vals.length := by rw [hl.1]; exact idx_lt (getq_lt he) hj
  rw [Array.getElem?_append, if_pos (by simpa using hlt)] at hx
  exact hl.2.2 p j e v x he hv (by simpa using hx)

theorem joinTy_some {a : Option TypeId} {u t : TypeId} (h : joinTy a u = some t) : a = some t ∧ t = u := by
  unfold joinTy at h
  split at h
  · rename_i t'
    rcases beq_cases t' u with ⟨h1, h2⟩ | ⟨h1, _⟩
    · rw [h1] at h
      have h' : some u = some t := h
      cases h'
      exact ⟨by rw [h2], rfl⟩
    · rw [h1] at h; cases h
  · cases h

theorem does_append (hr : Rep c h w) (he : ER c h w e a.tmps) {cl : Call} {x y : Operand} {t u el : TypeId} {i : TypeInfo} {z : Value} (ho : o.op = .call cl) (hcl : cl.callee = .builtin .append) (hargs : cl.args.toList = [x, y]) (htys : cl.argTypes.toList = [t, u])
    (ht : P.underlying t = some (.slice el)) (hu : (∃ e', P.underlying u = some (.slice e')) ∨ P.underlying u = some .string) (hi : P.info? el = some i) (hz : i.zero = some z) (hs : (ofVal 4 z).cells.length = i.size) (hk : (ofVal 4 z).known = true)
    (hp : aop P Γ (.append el i.size i.bytes (cOpd x) (cOpd y)) e h k kp) : Does P c h w a o k := by
  simp only [aop, evK_eq, appendK] at hp
  have hx := he.ev x
  have hy := he.ev y
  generalize (cOpd x).ev e = sx at hp hx
  have hsrc0 := elemsK_src hr hy hp hu
  clear hp
  obtain ⟨xs, news, hp, hL, hsrc, _⟩ := hsrc0
  have hzs : z.cells.size = i.size := cells_zero hk hs
  have hargs' : cl.args = #[x, y] := by simpa using congrArg List.toArray hargs
  have htys' : cl.argTypes = #[t, u] := by simpa using congrArg List.toArray htys
  have hrun : ∀ v' w', (Builtin.append_ #[t, u] o.type #[a.eval x, a.eval y]).run P w = .ok v' w' → (execOp a.eval o).run P w = .ok (.value v') w' := by
    intro v' w' hrun
    simp [execOp, ho, resolve, hcl, hargs', htys', invoke, builtin, hrun]
  split at hp
  · -- nothing is appended
    simp only [LW, List.length_nil, Nat.zero_mul] at hL
    obtain ⟨hl0, _, _⟩ := hL
    have hn0 : news = [] := List.eq_nil_of_length_eq_zero hl0
    subst hn0
    have hs0 := hsrc (fun u hu => by cases hu)
    simp only [List.length_nil] at hs0
    have hroom : ∀ base sLen sCap, a.eval x = .slice base sLen sCap → sLen ≤ sCap → (execOp a.eval o).run P w = .ok (.value (.slice base sLen sCap)) w := by
      intro base sLen sCap hxe hle
      refine hrun _ _ ?_
      rw [hxe]
      rcases hs0.kind with ⟨e', hk⟩ | hk <;> cases base <;> simp [Builtin.append_, run_underlying ht, run_underlying hk, Go.sizeOf, typeInfo, hi, hs0.len, hle, hs0.cells, storeCells]
    split at hp
    · exact (Sees.of _ _ hp (hroom _ _ _ hx.nils_inv (Nat.le_refl _)) (.pure .nils)).does hr
    · obtain ⟨hp, sz', elems, sk, hob⟩ := liveK_inv hp
      obtain ⟨_, ad, cc, hxe, hlc, _, _⟩ := hx.sl_inv hob rfl
      exact (Sees.of _ _ hp (hroom _ _ _ hxe hlc) (hxe ▸ hx)).does hr
    · obtain ⟨ad, cap, hxe, hlc, _⟩ := hx.lst_inv
      exact (Sees.of _ _ hp (hroom _ _ _ hxe hlc) (hxe ▸ hx)).does hr
    · exact hp.elim
  · rename_i x0 xr
    generalize hxs : x0 :: xr = xs at hp hL hsrc
    have hpos : 0 < xs.length := by rw [← hxs]; simp
    replace hp := asr_iff.1 hp
    obtain ⟨hone, hp⟩ := hp
    have hs1 := hsrc (hL.one hone)
    -- a new row
    have grow : ∀ (base : Option Addr) (sLen sCap : Nat) (els : List SV) (olds : List Value), a.eval x = .slice base sLen sCap → LW c h w i.size els olds → els.length = sLen →
        (Builtin.firstCells i.size sLen (.slice base sLen sCap)).run P w.drew = .ok olds.toArray w.drew → sCap < sLen + xs.length → (sLen + xs.length ≤ 9223372036854775807 ∧ (sLen + xs.length) * i.bytes ≤ 140737488355328) →
        ∃ rest ncap, (execOp a.eval o).run P w = .ok (.value (.slice (some ⟨w.heap.size, 0, none⟩) (sLen + xs.length) ncap)) (w.drew.alloc (.cells ((olds ++ news).toArray ++ rest) el)) ∧ sLen + xs.length ≤ ncap ∧ ncap * i.size = ((olds ++ news).toArray ++ rest).size := by
      intro base sLen sCap els olds hxe hLo hels hold hg ⟨h63, hbytes⟩
      refine ⟨Builtin.zeroCells z.cells (grownCap w (sLen + xs.length) sCap el - (sLen + xs.length)), grownCap w (sLen + xs.length) sCap el, hrun _ _ ?_, grownCap_ge w _ _ _, ?_⟩
      · rw [hxe]
        exact run_append_grow_src (P := P) w t u o.type el i z ht hi hz base sLen sCap olds hold (a.eval y) xs.length news hs1 hg (by omega) (growslice_fits hg hbytes)
      · have hge := grownCap_ge w (sLen + xs.length) sCap el
        simp only [Array.size_append, List.size_toArray, List.length_append, hLo.1, hL.1, hels, size_zeroCells, hzs]
        rw [← Nat.add_mul, ← Nat.add_mul]
        exact congrArg (· * i.size) (by omega)
    have fresh : ∀ (base : Option Addr) (sLen sCap : Nat) (els : List SV) (olds : List Value) (K : SV → Heap → Prop), a.eval x = .slice base sLen sCap → LW c h w i.size els olds → els.length = sLen →
        (Builtin.firstCells i.size sLen (.slice base sLen sCap)).run P w.drew = .ok olds.toArray w.drew → sCap < sLen + xs.length → (sLen + xs.length ≤ 9223372036854775807 ∧ (sLen + xs.length) * i.bytes ≤ 140737488355328) →
        K (.sl h.nxt 0 i.size 0 (sLen + xs.length) none) ⟨h.nxt + 1, (h.nxt, .vec 0 i.size (els ++ xs) ⟨true, some el⟩) :: h.l⟩ → Does P c h w a o K := by
      intro base sLen sCap els olds K hxe hLo hels hold hg hroom hK
      obtain ⟨rest, ncap, hr1, hn1, hn2⟩ := grow base sLen sCap els olds hxe hLo hels hold hg hroom
      obtain ⟨n, l⟩ := h
      have hall := grown_cells (hLo.append hL) rest
      have hrd := drew_rep hr
      have hdx : Ext c ⟨n, l⟩ w c ⟨n, l⟩ w.drew := drew_ext
      refine ⟨_, _, _, c.push n w.heap.size, _, hK, .inl hr1, rep_push hrd _ _ (.vec 0 i.size _ ⟨true, some el⟩ _ el (0, 0) (heap_new _ _) hall.1 (fun e => by cases e) (fun _ h => (Option.some.inj h).symm) hall.2.1 (by simp) fun p j e v x' h1 h2 h3 => ((hall.2.2 p j e v x' h1 h2 h3).mono hr hdx).mono hrd (ext_push hrd _ _)),
        hdx.trans hr (ext_push hrd _ _), ?_⟩
      exact .sl _ _ _ _ _ _ _ ⟨_, _, _, rfl⟩ (Nat.lt_succ_self _) (fun _ _ => Nat.zero_le _) fun o' ho' _ => by
        rw [obj_push, if_pos rfl] at ho'; cases ho'
        have hsh : (w.drew.alloc (.cells ((olds ++ news).toArray ++ rest) el)).shape? ((c.push n w.heap.size).β n) = some (el, ((olds ++ news).toArray ++ rest).size) := by simp only [World.shape?, Cx.push, if_pos]; rw [show w.heap.size = w.drew.heap.size from rfl, heap_new]
        refine ⟨rfl, _, _, rfl, hn1, fun k hk => (by cases hk), .inr ⟨by simp [Cx.push], el, _, hsh, by omega⟩, fun _ => ⟨el, _, hsh, by omega⟩⟩
    split at hp
    · -- onto nil
      replace hp := asr_iff.1 hp
      obtain ⟨hroom, hp⟩ := hp
      simp only [Bool.and_eq_true, decide_eq_true_eq] at hroom
      refine fresh none 0 0 [] [] k hx.nils_inv ⟨by simp, fun v hv => by simp at hv, fun i j e v x he => by simp at he⟩ rfl (run_firstCells_none w.drew i.size 0 0 0) (by omega) (by simpa using hroom) ?_
      obtain ⟨n, l⟩ := h
      simpa using hp
    · rename_i ii g sz' off len cap
      replace hp := asr_iff.1 hp
      obtain ⟨hsz, hp⟩ := hp
      have hsz := Nat.eq_of_beq_eq_true hsz
      subst hsz
      obtain ⟨n, l⟩ := h
      simp only [lookO_eq] at hp
      split at hp
      · rename_i ob hob
        split at hp
        · rename_i g' szo elems sk
          replace hp := asr_iff.1 hp
          obtain ⟨hg, hp⟩ := hp
          have hg := Nat.eq_of_beq_eq_true hg
          subst hg
          obtain ⟨hsz', ad, cc, hxe, hlc, hcap, hor⟩ := hx.sl_inv (o := .vec g' szo elems sk) hob rfl
          simp only [AObj.sz] at hsz'
          have hin : ii < n := hr.lt ii _ hob
          -- the elements that are there
          have olds : off + len ≤ elems.length → ∃ vals, LW c ⟨n, l⟩ w i.size ((elems.drop off).take len) vals ∧ ((elems.drop off).take len).length = len ∧ (Builtin.firstCells i.size len (.slice (some ad) len cc)).run P w.drew = .ok vals.toArray w.drew := by
            intro hle
            have htl : ((elems.drop off).take len).length = len := by simp; omega
            rcases hor with h0 | ⟨rfl, ty, m, hsh, hle'⟩
            · have hl0 : len = 0 := by omega
              subst hl0
              refine ⟨[], ⟨by simp, fun v hv => by simp at hv, fun i j e v x he => by simp at he⟩, by simp, ?_⟩
              exact run_firstCells_some w.drew i.size 0 ad 0 cc [] (by simp) (fun j u hu => by simp at hu)
            · obtain ⟨vals, hLv, hvl, hcl⟩ := row_cells hr (i := ii) (g := g') (sz := szo) (elems := elems) (sk := sk) hob hle
              rw [hsz'] at hLv hvl hcl
              exact ⟨vals, hLv, htl, run_firstCells_some w.drew i.size len _ len cc vals hvl (by simpa using hcl)⟩
          -- in place
          have place : ∀ (g2 : Nat) (sk2 : Sk) (elems' : List SV) (cap' : Option Nat), (cap' = none → cap = none) → g' ≤ g2 → len + xs.length ≤ cc → (∀ k, cap' = some k → cc = k) → off + len ≤ elems.length → 
              (∀ p, elems'[p]? = if off + len ≤ p ∧ p < off + len + xs.length then xs[p - (off + len)]? else elems[p]?) → (sk2.slack = false → sk.slack = false ∧ elems'.length = elems.length) → (∀ t, sk2.ty = some t → sk.ty = some t) → 
              k (.sl ii g2 i.size off (len + xs.length) cap') ⟨n, putO l ii (.vec g2 szo elems' sk2)⟩ → Does P c ⟨n, l⟩ w a o k := by
            intro g2 sk2 elems' cap' hcn hgg hfit hcap' hle hel hsk hskt hK
            rcases hor with h0 | ⟨rfl, ty, m, hsh, hle'⟩
            · omega
            · cases hr.obj ii _ hob with
              | vec _ _ _ _ C ty' fz hw hleC heq hty hc hf hcell =>
                have hmC : m = C.size := by
                  simp only [World.shape?, hw, Option.some.injEq, Prod.mk.injEq] at hsh
                  exact hsh.2.symm
                have e0 : (len + xs.length) * i.size ≤ cc * i.size := Nat.mul_le_mul_right _ hfit
                rw [Nat.add_mul] at e0
                obtain ⟨w', C', hst, e1, e2, e3, e4, e5, e6, e7, e8⟩ := storeCells_run P (c.β ii) (off * i.size + len * i.size) ty' fz news 0 C w hw hf (by
                  right; rw [hL.1, ← hmC]; omega) hs1.one
                have hshape : w'.shape? (c.β ii) = w.shape? (c.β ii) := by simp only [World.shape?, e6, hw, e7]
                have hxx := ext_put2 (n := n) (elems' := elems') (sk2 := sk2) hob hgg e1 e2 e3 e4 e5 hshape
                have hlen' : elems'.length * szo ≤ C'.size := by
                  rcases Nat.lt_or_ge (off + len + xs.length) elems.length with hlt | hge
                  · have : elems'.length ≤ elems.length := by
                      rcases Nat.lt_or_ge elems.length elems'.length with hh | hh
                      · have h1 := hel elems.length
                        rw [if_neg (by omega), List.getElem?_eq_none (Nat.le_refl _)] at h1
                        rw [List.getElem?_eq_getElem hh] at h1; cases h1
                      · exact hh
                    have := Nat.mul_le_mul_right szo this
                    rw [e7]; omega
                  · have : elems'.length ≤ off + len + xs.length := by
                      rcases Nat.lt_or_ge (off + len + xs.length) elems'.length with hh | hh
                      · have h1 := hel (off + len + xs.length)
                        rw [if_neg (by omega), List.getElem?_eq_none hge] at h1
                        rw [List.getElem?_eq_getElem hh] at h1; cases h1
                      · exact hh
                    have := Nat.mul_le_mul_right szo this
                    rw [hsz', Nat.add_mul, Nat.add_mul] at this
                    rw [e7, ← hmC, hsz']; omega
                have hmem' : ∀ v ∈ elems', v.cells.length = szo := by
                  intro v hv
                  obtain ⟨p, hp⟩ := List.mem_iff_getElem?.1 hv
                  rw [hel] at hp
                  split at hp
                  · rw [hsz']; exact hL.2.1 v (List.mem_of_getElem? hp)
                  · exact hc v (List.mem_of_getElem? hp)
                refine ⟨_, .slice (some ⟨c.β ii, off * i.size, none⟩) (len + xs.length) cc, _, c, w', hK, .inl (hrun _ _ ?_), rep_put2 hr hob hxx e4 e5 e6 hlen' (fun hsk2 => ?_) (fun t ht => hty t (hskt t ht)) hmem' (by rw [e7]; exact hf) (fun p j ee v z' hpe hv hz' => ?_), hxx, ?_⟩
                · rw [hxe]
                  rcases hs1.kind with ⟨e', hk⟩ | hk <;> simp [Builtin.append_, run_underlying ht, run_underlying hk, Go.sizeOf, typeInfo, hi, hs1.len, hfit, hs1.cells, add_eq, hst]
                · obtain ⟨h1, h2⟩ := hsk hsk2
                  rw [h2, e7]; exact heq h1
                · have hj : j < szo := by rw [← hmem' ee (List.mem_of_getElem? hpe)]; exact getq_lt hv
                  rw [e8] at hz'
                  simp only [Nat.add_zero] at hz'
                  rw [hel] at hpe
                  by_cases hin2 : off + len ≤ p ∧ p < off + len + xs.length
                  · rw [if_pos hin2] at hpe
                    have e9 : p * szo = off * i.size + len * i.size + (p - (off + len)) * szo := by
                      rw [hsz', ← Nat.add_mul, ← Nat.add_mul]; congr 1; omega
                    have hlt2 := idx_lt (sz := szo) (getq_lt hpe) hj
                    rw [← hsz'] at hL
                    rw [if_pos (by rw [hL.1]; omega)] at hz'
                    refine hL.2.2 _ j ee v z' hpe hv ?_
                    rw [← hz']
                    congr 1
                    omega
                  · rw [if_neg hin2] at hpe
                    have hout : ¬ (off * i.size + len * i.size ≤ p * szo + j ∧ p * szo + j < off * i.size + len * i.size + news.length) := by
                      intro ⟨q1, q2⟩
                      rw [hL.1, ← hsz', ← Nat.add_mul, ← Nat.add_mul] at q2
                      rw [← hsz', ← Nat.add_mul] at q1
                      rcases Nat.lt_or_ge p (off + len) with hlt | hge
                      · have := idx_lt (sz := szo) hlt hj
                        omega
                      · have : off + len + xs.length ≤ p := by omega
                        have := Nat.mul_le_mul_right szo this
                        omega
                    rw [if_neg hout] at hz'
                    exact hcell p j ee v z' hpe hv hz'
                · have := sl_at (c := c) (off := off) (n := n) (w' := w') (cc := cc) (len := len + xs.length) (cap := cap') hin (objL_putS l ii _ (.vec g2 szo elems' sk2) hob) e6 hfit hcap' (by rw [e7, ← hmC, hsz']; exact hle') (fun hc => by
                    have hcap0 := hcn hc
                    subst hcap0
                    obtain ⟨ty2, m2, hs2, he2⟩ := hx.sl_full (o := .vec g' szo elems sk) hob rfl hxe
                    rw [hsh] at hs2
                    cases hs2
                    rw [e7, ← hmC, hsz']; exact he2)
                  rw [hsz'] at this
                  rw [← hsz'] at this ⊢
                  exact this
          split at hp
          · -- the capacity is known
            rename_i cp
            have hcc := hcap cp rfl
            rcases brE hp with ⟨hb, hp⟩ | ⟨hb, hp⟩
            · have hfit := Nat.le_of_ble_eq_true hb
              obtain ⟨hrn, hp⟩ := setRun_iff.1 hp
              rw [setO_eq] at hp
              have hrn : off + len + xs.length ≤ elems.length := by
                rcases hrn with h | h
                · rw [h] at hpos; simp at hpos
                · exact h
              refine place g' sk _ (some cp) (fun h => by cases h) (Nat.le_refl _) (by omega) (fun k hk => by cases hk; exact hcc) (by omega) (fun p => setAll_get _ _ _ _ hrn) (fun hs => ⟨hs, setAll_length _ _ _⟩) (fun _ h => h) hp
            · have hfit : ¬ (len + xs.length ≤ cp) := fun hle => by
                rw [Nat.ble_eq_true_of_le hle] at hb; cases hb
              replace hp := asr_iff.1 hp
              obtain ⟨hroom, hp⟩ := hp
              simp only [Bool.and_eq_true, decide_eq_true_eq] at hroom
              obtain ⟨hl1, hp⟩ := dropN_iff.1 hp
              obtain ⟨hl2, hp⟩ := takeN_iff.1 hp
              rw [appL_eq] at hp
              simp only [List.length_drop] at hl2
              obtain ⟨vals, hLv, htl, hold⟩ := olds (by omega)
              exact fresh _ len cc _ vals k hxe hLv htl hold (by omega) hroom hp
          · -- it is not
            have hbr := brE hp
            clear hp
            rcases hbr with ⟨hb, hp⟩ | ⟨_, hp⟩
            · simp only [Bool.and_eq_true] at hb
              have hs0 : 0 < i.size := Nat.lt_of_succ_le (Nat.le_of_ble_eq_true hb.1)
              have hle := Nat.le_of_ble_eq_true hb.2
              obtain ⟨_, hp⟩ := setRun_iff.1 hp
              rw [setO_eq] at hp
              obtain ⟨ty2, m2, hs2, he2⟩ := hx.sl_full (o := .vec g' szo elems sk) hob rfl hxe
              have hfit : len + xs.length ≤ cc := by
                cases hr.obj ii _ hob with
                | vec _ _ _ _ C ty' fz hw hleC _ _ _ _ _ =>
                  have hm2 : m2 = C.size := by
                    simp only [World.shape?, hw, Option.some.injEq, Prod.mk.injEq] at hs2
                    exact hs2.2.symm
                  have h1 : (off + (len + xs.length)) * i.size ≤ (off + cc) * i.size := by
                    rw [Nat.add_mul off cc, he2, hm2]
                    refine Nat.le_trans (Nat.mul_le_mul_right _ ?_) (hsz' ▸ hleC)
                    omega
                  have h2 := Nat.le_of_mul_le_mul_right h1 hs0
                  omega
              exact place g' sk _ none (fun _ => rfl) (Nat.le_refl _) hfit (fun k hk => by cases hk) (by omega) (fun p => setAll_get _ _ _ _ hle) (fun hs => ⟨hs, setAll_length _ _ _⟩) (fun _ h => h) hp
            replace hp := asr_iff.1 hp
            obtain ⟨hcond, hp⟩ := hp
            simp only [Bool.and_eq_true, decide_eq_true_eq] at hcond
            obtain ⟨⟨hoff, hlen⟩, hroom⟩ := hcond
            have hoff := Nat.eq_of_beq_eq_true hoff
            have hlen := Nat.eq_of_beq_eq_true hlen
            subst hoff
            rw [appL_eq, setO_eq] at hp
            by_cases hfit : len + xs.length ≤ cc
            · refine place (g' + 1) ⟨true, joinTy sk.ty el⟩ (elems ++ xs) none (fun _ => rfl) (Nat.le_succ _) hfit (fun k hk => by cases hk) (by omega) (fun p => ?_) (fun hs => by cases hs) (fun t ht => (joinTy_some ht).1) hp
              rw [List.getElem?_append]
              by_cases h1 : p < elems.length
              · rw [if_pos h1, if_neg (by omega)]
              · rw [if_neg h1]
                by_cases h2 : 0 + len ≤ p ∧ p < 0 + len + xs.length
                · rw [if_pos h2]; congr 1; omega
                · rw [if_neg h2, List.getElem?_eq_none (by omega), List.getElem?_eq_none (by omega)]
            · obtain ⟨vals, hLv, htl, hold⟩ := olds (by omega)
              obtain ⟨rest, ncap, hr1, hn1, hn2⟩ := grow (some ad) len cc _ vals hxe hLv htl hold (by omega) hroom
              have hfull : (elems.drop 0).take len = elems := by rw [List.drop_zero, hlen, List.take_length]
              rw [hfull] at hLv
              have hall := grown_cells (hLv.append hL) rest
              rw [← hsz'] at hall
              have hrd := drew_rep hr
              have hdx : Ext c ⟨n, l⟩ w c ⟨n, l⟩ w.drew := drew_ext
              have hmv := rep_move (ty := el) hrd hob (tyo := joinTy sk.ty el) (fun t ht => (joinTy_some ht).2) hall.1 hall.2.1 fun p j e v x' h1 h2 h3 => (hall.2.2 p j e v x' h1 h2 h3).mono hr hdx
              refine ⟨_, _, _, c.push ii w.heap.size, _, hp, .inl hr1, hmv, hdx.trans hr (ext_move hob _), ?_⟩
              have := sl_at (c := c.push ii w.heap.size) (off := 0) (n := n) (cc := ncap) (len := len + xs.length) (cap := none) hin (objL_putS l ii _ (.vec (g' + 1) szo (elems ++ xs) ⟨true, joinTy sk.ty el⟩) hob)
                (w' := w.drew.alloc (.cells ((vals ++ news).toArray ++ rest) el)) (C := (vals ++ news).toArray ++ rest) (ty := el) (fz := (0, 0)) (by simp only [Cx.push, if_pos]; exact heap_new w.drew _) hn1 (fun k hk => by cases hk) (by rw [hsz']; omega) (fun _ => by rw [hsz']; omega)
              rw [hsz'] at this ⊢
              simpa [Cx.push] using this
        · exact hp.elim
      · exact hp.elim
    · exact hp.elim
end
end Ab
namespace Ab
set_option linter.unusedVariables false
set_option linter.unusedSimpArgs false
open Go
section
variable {P : Program} {Γ : CallR} {c : Cx} {h : Heap} {w : World} {e : Env} {a : Act} {o : Oper} {k kp : SV → Heap → Prop}

theorem slice_form {x : SV} {y : Value} {sz : Nat} {K : List SV → Prop} (hv : VR c h w x y) (hp : elemsK h sz x K) (hx : ∀ s, x ≠ .str s) : ∃ ad n cc, y = .slice ad n cc := by
  unfold elemsK at hp
  split at hp
  · exact ⟨_, _, _, hv.nils_inv⟩
  · exact absurd rfl (hx _)
  · obtain ⟨ad, cap, h1, _⟩ := hv.lst_inv; exact ⟨_, _, _, h1⟩
  · cases hv with
    | pure hv => cases hv
    | sl _ _ _ _ _ _ _ hx => obtain ⟨ad, l, cc, h1⟩ := hx; exact ⟨ad, l, cc, h1⟩
  · exact hp.elim

theorem bytesK_inv : ∀ {xs : List SV} {K : List UInt8 → Prop}, bytesK xs K → ∃ ns : List Int, xs = ns.map (SV.int .u8) ∧ K (ns.map fun n => UInt8.ofNat n.toNat)
  | [], K, hp => ⟨[], rfl, hp⟩
  | v :: r, K, hp => by
    unfold bytesK at hp
    split at hp
    · rename_i n
      obtain ⟨ns, rfl, hk⟩ := bytesK_inv hp
      exact ⟨n :: ns, rfl, hk⟩
    · exact hp.elim
theorem bytesK_of : ∀ {ns : List Int} {K : List UInt8 → Prop}, K (ns.map fun n => UInt8.ofNat n.toNat) → bytesK (ns.map (SV.int .u8)) K
  | [], K, hk => hk
  | n :: ns, K, hk => by
    rw [List.map_cons]
    unfold bytesK
    exact bytesK_of hk

theorem foldl_push (f : Int → UInt8) : ∀ (ns : List Int) (acc : List UInt8), ns.foldl (fun r n => ByteArray.push r (f n)) ⟨acc.toArray⟩ = ⟨(acc ++ ns.map f).toArray⟩
  | [], acc => by simp
  | n :: ns, acc => by
    rw [List.foldl_cons]
    have : ByteArray.push ⟨acc.toArray⟩ (f n) = ⟨(acc ++ [f n]).toArray⟩ := by simp [ByteArray.push]
    rw [this, foldl_push f ns]
    simp

theorem sees_toStr (hr : Rep c h w) (he : ER c h w e a.tmps) {s d el : TypeId} {x : Operand} (ho : o.op = .convert s d x) (hs : P.underlying s = some (.slice el)) (hel : P.underlying el = some (.int .u8)) (hd : P.underlying d = some .string)
    (hp : aop P Γ (.toStr (cOpd x)) e h k kp) : Sees P c h w a o k := by
  simp only [aop, evK_eq] at hp
  have hx := he.ev x
  split at hp
  · exact hp.elim
  · rename_i hne
    obtain ⟨ad, n, cc, hxe⟩ := slice_form hx hp hne
    obtain ⟨xs, news, hp, hL, hsrc, _⟩ := elemsK_src hr hx hp (tx := s) (.inl ⟨el, hs⟩)
    obtain ⟨ns, rfl, hk⟩ := bytesK_inv hp
    have hnews : news = ns.map (Value.int .u8) := by
      apply List.ext_getElem?
      intro j
      have hl := hL.1
      rw [List.length_map, Nat.mul_one] at hl
      rcases Nat.lt_or_ge j ns.length with hj | hj
      · have hv := hL.2.2 j 0 (.int .u8 ns[j]) (.int .u8 ns[j]) (news[j]'(by omega)) (by simp [hj]) rfl (by rw [Nat.mul_one, Nat.add_zero]; exact List.getElem?_eq_getElem _)
        rw [List.getElem?_eq_getElem (by omega), hv.int_inv]
        simp [hj]
      · rw [List.getElem?_eq_none (by omega), List.getElem?_eq_none (by simpa using hj)]
    subst hnews
    have hs0 := hsrc (fun u hu => by obtain ⟨_, _, rfl⟩ := List.mem_map.1 hu; rfl)
    refine .of _ _ hk ?_ .str
    have hcells := hs0.cells
    rw [hxe] at hcells
    have hfold := foldl_push (fun n => UInt8.ofNat n.toNat) ns []
    simp only [List.nil_append] at hfold
    have hrun : (Conv.bytesToString (.slice ad n cc)).run P w = .ok (.string ⟨(ns.map fun n => UInt8.ofNat n.toNat).toArray⟩) w := by
      cases ad with
      | none =>
        simp only [Builtin.firstCells, Sem.run_pure, Result.ok.injEq, and_true] at hcells
        have : ns = [] := by
          have := congrArg Array.size hcells
          simp at this
          exact List.eq_nil_of_length_eq_zero this.symm
        subst this
        simp [Conv.bytesToString]
        rfl
      | some ad =>
        have hn : n = ns.length := by
          have := hs0.len w
          rw [hxe] at this
          simp [Builtin.lenOf] at this
          exact this
        simp only [Builtin.firstCells, Nat.mul_one, List.length_map] at hcells
        rw [run_bytesToString w ad n cc ns (by rw [hn]; exact hcells), ← hfold]
        rfl
    simp [execOp, ho, hxe, run_convert_bytes_string w s d el ad n cc hs hel hd, hrun]

theorem freeze_new (w : World) (C : Array Value) (ty : TypeId) (o : Nat) : (w.alloc (.cells C ty)).freeze ⟨w.heap.size, o, none⟩ 1 = w.alloc (.cells C ty (o, o + 1)) := by
  unfold World.freeze
  rw [if_neg (by decide)]
  have : ∀ (A B : Array Obj), A = B → ({ (w.alloc (.cells C ty)) with heap := A } : World) = { (w.alloc (.cells C ty)) with heap := B } := fun A B h => by rw [h]
  refine (this _ _ ?_).trans (b := { (w.alloc (.cells C ty)) with heap := w.heap.push (.cells C ty (o, o + 1)) }) rfl
  apply Array.ext_getElem?
  intro j
  simp only [Array.getElem?_modify]
  show (if w.heap.size = j then ((w.heap.push (.cells C ty))[j]?).map _ else (w.heap.push (.cells C ty))[j]?) = _
  rw [Array.getElem?_push, Array.getElem?_push]
  by_cases hj : w.heap.size = j
  · subst hj; simp
  · rw [if_neg hj, if_neg (fun e => hj e.symm), if_neg (fun e => hj e.symm)]

theorem does_toBytes (hr : Rep c h w) (he : ER c h w e a.tmps) {s d el : TypeId} {x : Operand} (ho : o.op = .convert s d x) (hs : P.underlying s = some .string) (hd : P.underlying d = some (.slice el)) (hel : P.underlying el = some (.int .u8))
    (hp : aop P Γ (.toBytes el (cOpd x)) e h k kp) : Does P c h w a o k := by
  simp only [aop, evK_eq] at hp
  have hx := he.ev x
  split at hp
  · rename_i t hev
    rw [hev] at hx
    have hxe := hx.str_inv
    rw [strK_eq] at hp
    obtain ⟨n, l⟩ := h
    have hge := grownCap_ge w t.length 0 el
    let C : Array Value := (byteCells ⟨t.toArray⟩).toArray ++ Array.replicate (grownCap w t.length 0 el - t.length) (.int .u8 0)
    have hCs : C.size = grownCap w t.length 0 el := by
      simp only [C, Array.size_append, List.size_toArray, byteCells_length, Array.size_replicate]
      show t.toArray.size + _ = _
      simp
      omega
    have hrd := drew_rep hr
    have hdx : Ext c ⟨n, l⟩ w c ⟨n, l⟩ w.drew := drew_ext
    have hL : LW c ⟨n, l⟩ w 1 (t.map fun b => SV.int .u8 b.toNat) (byteCells ⟨t.toArray⟩) := by
      refine ⟨by simp [byteCells], fun v hv => ?_, fun i j e v x he hv hx => ?_⟩
      · obtain ⟨b, _, rfl⟩ := List.mem_map.1 hv; rfl
      · rw [List.getElem?_map] at he
        cases hb : t[i]? with
        | none => rw [hb] at he; cases he
        | some b =>
          rw [hb] at he
          simp only [Option.map_some, Option.some.injEq] at he
          subst he
          cases j with
          | zero =>
            simp only [SV.cells, List.getElem?_cons_zero, Option.some.injEq] at hv
            subst hv
            simp only [byteCells, Nat.mul_one, Nat.add_zero, List.getElem?_map, hb, Option.map_some, Option.some.injEq] at hx
            subst hx
            exact .int
          | succ j => simp [SV.cells] at hv
    have hall := grown_cells hL (Array.replicate (grownCap w t.length 0 el - t.length) (.int .u8 0))
    refine ⟨_, .slice (some ⟨w.heap.size, 0, none⟩) t.length (grownCap w t.length 0 el), _, c.push n w.heap.size, w.drew.alloc (.cells C el (C.size, C.size + 1)), hp, .inl ?_,
      rep_push hrd _ _ (.vec 0 1 _ ⟨true, some el⟩ C el (C.size, C.size + 1) (heap_new _ _) hall.1 (fun e => by cases e) (fun _ h => (Option.some.inj h).symm) hall.2.1 (fun k hk => by simp only; omega) fun p j e v x' h1 h2 h3 => ((hall.2.2 p j e v x' h1 h2 h3).mono hr hdx).mono hrd (ext_push hrd _ _)),
      hdx.trans hr (ext_push hrd _ _), ?_⟩
    · have hq : (Question.appendCap t.length 0 el).forced = false := rfl
      have hsz : (⟨t.toArray⟩ : ByteArray).size = t.length := by simp [ByteArray.size]
      have hC : C = (Array.map (fun b : UInt8 => Value.int .u8 b.toNat) t.toArray) ++ Array.replicate (grownCap w t.length 0 el - t.length) (.int .u8 0) := by
        simp only [C, byteCells]
        congr 1
        apply Array.ext'
        simp
      have hfr := freeze_new w.drew C el C.size
      have hshape : (w.drew.alloc (.cells C el)).shape? w.heap.size = some (el, C.size) := by
        simp only [World.shape?]
        rw [show w.heap.size = w.drew.heap.size from rfl, heap_new]
      have hconv : (convert s d (.string ⟨t.toArray⟩)).run P w = (Conv.stringToBytes el ⟨t.toArray⟩).run P w := by
        simp [convert, run_underlying hs, run_underlying hd, run_underlying hel]
      simp only [execOp, ho, hxe, Sem.run_bind, hconv]
      have hfin : (Conv.stringToBytes el ⟨t.toArray⟩).run P w = .ok (.slice (some ⟨w.heap.size, 0, none⟩) t.length (grownCap w t.length 0 el)) (w.drew.alloc (.cells C el (C.size, C.size + 1))) := by
        unfold Conv.stringToBytes
        have hC2 : (Array.map (fun b : UInt8 => Value.int .u8 b.toNat) t.toArray) ++ Array.replicate ((Question.appendCap t.length 0 el).cut (w.tape w.drawn (Question.appendCap t.length 0 el)) - t.length) (.int .u8 0) = C := hC.symm
        have hfr' : (w.drew.alloc (.cells C el)).freeze ⟨w.drew.heap.size, C.size, none⟩ 1 = w.drew.alloc (.cells C el (C.size, C.size + 1)) := hfr
        have hshape' : (w.drew.alloc (.cells C el)).shape? w.drew.heap.size = some (el, C.size) := hshape
        simp only [hsz, Sem.run_bind, run_choose_drew, hq, Bool.false_eq_true, if_false, Result.andThen_ok, newRow, run_newObj_alloc, Sem.run_pure, markStringish, run_shape, hC2, hshape', run_freeze, hfr']
        rfl
      rw [hfin]
      rfl
    · exact .sl _ _ _ _ _ _ _ ⟨_, _, _, rfl⟩ (Nat.lt_succ_self _) (fun _ _ => Nat.zero_le _) fun o' ho' _ => by
        rw [obj_push, if_pos rfl] at ho'; cases ho'
        have hsh : (w.drew.alloc (.cells C el (C.size, C.size + 1))).shape? ((c.push n w.heap.size).β n) = some (el, C.size) := by simp only [World.shape?, Cx.push, if_pos]; rw [show w.heap.size = w.drew.heap.size from rfl, heap_new]
        refine ⟨rfl, _, _, rfl, hge, fun k hk => (by cases hk), .inr ⟨by simp [Cx.push], el, _, hsh, by omega⟩, fun _ => ⟨el, _, hsh, by omega⟩⟩
  · exact hp.elim
end
end Ab
