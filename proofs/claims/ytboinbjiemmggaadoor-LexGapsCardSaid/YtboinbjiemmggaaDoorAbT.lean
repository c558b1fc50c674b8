/- Structs and slices put together of their parts; slices made. -/
import Derived.Test.YtboinbjiemmggaaDoorAbR
namespace Ab
set_option linter.unusedVariables false
set_option linter.unusedSimpArgs false
open Go
section
variable {P : Program} {Γ : CallR} {c : Cx} {h : Heap} {w : World} {e : Env} {a : Act} {o : Oper} {k kp : SV → Heap → Prop}

theorem foldSet (off : Nat) : ∀ (vs : List Value) (n : Nat) (C : Array Value),
    ((vs.zipIdx n).foldl (fun cs (p : Value × Nat) => cs.setIfInBounds (off + p.2) p.1) C).size = C.size ∧
    ∀ k, ((vs.zipIdx n).foldl (fun cs (p : Value × Nat) => cs.setIfInBounds (off + p.2) p.1) C)[k]? = if off + n ≤ k ∧ k < off + n + vs.length ∧ k < C.size then vs[k - (off + n)]? else C[k]?
  | [], n, C => ⟨rfl, fun k => by simp; omega⟩
  | v :: vs, n, C => by
    simp only [List.zipIdx_cons, List.foldl_cons]
    obtain ⟨h1, h2⟩ := foldSet off vs (n + 1) (C.setIfInBounds (off + n) v)
    refine ⟨by rw [h1]; simp, fun k => ?_⟩
    rw [h2 k]
    simp only [Array.size_setIfInBounds, List.length_cons, Array.getElem?_setIfInBounds]
    by_cases hk : off + n = k
    · subst hk
      by_cases hs : off + n < C.size
      · rw [if_neg (by omega), if_pos rfl, if_pos hs, if_pos (by omega)]; simp
      · rw [if_neg (by omega), if_pos rfl, if_neg hs, if_neg (by omega)]
        rw [Array.getElem?_eq_none (by omega)]
    · by_cases hin : off + (n + 1) ≤ k ∧ k < off + (n + 1) + vs.length ∧ k < C.size
      · rw [if_pos hin, if_pos (by omega)]
        have : k - (off + n) = (k - (off + (n + 1))) + 1 := by omega
        rw [this]; simp
      · rw [if_neg hin, if_neg hk, if_neg (by omega)]

theorem fill_cons (place : Nat → Option (Nat × Nat)) (cells : Array Value) (i off sz : Nat) (v : Value) (rest : List (Nat × Value)) (hp : place i = some (off, sz)) (hs : v.cells.size = sz) (hle : off + v.cells.size ≤ cells.size) :
    ∃ C', Instr.fill place cells ((i, v) :: rest) = Instr.fill place C' rest ∧ C'.size = cells.size ∧ ∀ k, C'[k]? = if off ≤ k ∧ k < off + sz then v.cells[k - off]? else cells[k]? := by
  obtain ⟨h1, h2⟩ := foldSet off v.cells.toList 0 cells
  refine ⟨v.cells.zipIdx.foldl (fun cs (p : Value × Nat) => cs.setIfInBounds (off + p.2) p.1) cells, ?_, ?_, fun k => ?_⟩
  · have : ¬ (off + v.cells.size > cells.size) := by omega
    simp [Instr.fill, hp, hs, Nat.not_lt.2 (hs ▸ hle)]
  · rw [← Array.foldl_toList, Array.toList_zipIdx]; exact h1
  · rw [← Array.foldl_toList, Array.toList_zipIdx, h2 k]
    simp only [Nat.add_zero, Array.length_toList, Array.getElem?_toList]
    by_cases hin : off ≤ k ∧ k < off + sz
    · rw [if_pos (by omega), if_pos hin]
    · rw [if_neg (by omega), if_neg hin]

/-- Cells that read so. -/
def CR (c : Cx) (h : Heap) (w : World) (cs : List SV) (C : Array Value) : Prop := C.size = cs.length ∧ ∀ (i : Nat) (v : SV) (x : Value), cs[i]? = some v → C[i]? = some x → VR c h w v x

theorem fillParts_run (he : ER c h w e a.tmps) (place : Nat → Option (Nat × Nat)) {K : List SV → Prop} : ∀ (ps : List (Nat × Operand)) (l : List (Nat × Nat × AOpd)) (cs : List SV) (C : Array Value),
    ps.mapM (fun (j, x) => (place j).map fun (off, sz) => (off, sz, cOpd x)) = some l → CR c h w cs C → fillParts e l cs K →
    ∃ cs' C', K cs' ∧ Instr.fill place C (ps.map fun (i, x) => (i, a.eval x)) = some C' ∧ CR c h w cs' C'
  | [], l, cs, C, hl, hc, hp => by
    simp only [List.mapM_nil, Option.pure_def, Option.some.injEq] at hl
    subst hl
    exact ⟨cs, C, hp, rfl, hc⟩
  | (j, x) :: ps, l, cs, C, hl, hc, hp => by
    simp only [List.mapM_cons, Option.bind_eq_bind, Option.pure_def, Option.bind_eq_some_iff, Option.map_eq_some_iff, Option.some.injEq] at hl
    obtain ⟨y, ⟨⟨off, sz⟩, hpl, rfl⟩, l', hl', rfl⟩ := hl
    simp only [fillParts, evK_eq] at hp
    obtain ⟨hu, hp⟩ := cellsK_iff.1 hp
    replace hp := asr_iff.1 hp
    obtain ⟨hsz, hp⟩ := hp
    simp only [Bool.and_eq_true] at hsz
    obtain ⟨hsz, hlen⟩ := hsz
    have hsz := Nat.eq_of_beq_eq_true hsz
    have hlen := Nat.le_of_ble_eq_true hlen
    obtain ⟨hfit, hp⟩ := setRun_iff.1 hp
    obtain ⟨hy1, hy2⟩ := vcells (he.ev x) hu
    obtain ⟨C1, h1, h2, h3⟩ := fill_cons place C j off sz (a.eval x) (ps.map fun (i, x) => (i, a.eval x)) hpl (by omega) (by rw [hc.1]; omega)
    obtain ⟨cs', C', hk, hf, hcr⟩ := fillParts_run he place ps l' _ C1 hl' ⟨by rw [h2, setAll_length]; exact hc.1, fun i v z hv hz => by
      rw [h3] at hz
      by_cases hnil : ((cOpd x).ev e).cells = []
      · rw [hnil] at hv
        have : sz = 0 := by rw [← hsz, hnil]; rfl
        rw [if_neg (by omega)] at hz
        exact hc.2 i v z hv hz
      · have hfit' := hfit.resolve_left hnil
        rw [setAll_get _ _ _ _ hfit'] at hv
        by_cases hin : off ≤ i ∧ i < off + sz
        · rw [if_pos (by omega)] at hv
          rw [if_pos hin] at hz
          exact hy2 _ v z hv hz
        · rw [if_neg (by omega)] at hv
          rw [if_neg hin] at hz
          exact hc.2 i v z hv hz⟩ hp
    exact ⟨cs', C', hk, by rw [List.map_cons, h1]; exact hf, hcr⟩

theorem replK_eq (v : SV) : ∀ (n : Nat) (K : List SV → Prop), replK n v K = K (List.replicate n v)
  | 0, K => rfl
  | n+1, K => by unfold replK; rw [replK_eq v n]; rfl

theorem places_run (fs : Array Field) (hall : fs.toList.all (fun f => (P.info? f.type).isSome) = true) :
    (fs.mapM fun f => (do pure (f.offset, ← Go.sizeOf f.type) : Sem (Nat × Nat))).run P w = .ok (fs.map fun f => (f.offset, P.cellsOf f.type)) w := by
  rw [Array.mapM_eq_mapM_toList]
  have : ∀ l : List Field, l.all (fun f => (P.info? f.type).isSome) = true → (l.mapM fun f => (do pure (f.offset, ← Go.sizeOf f.type) : Sem (Nat × Nat))).run P w = .ok (l.map fun f => (f.offset, P.cellsOf f.type)) w := by
    intro l
    induction l with
    | nil => intro _; simp
    | cons f l ih =>
      intro hl
      simp only [List.all_cons, Bool.and_eq_true] at hl
      obtain ⟨i, hi⟩ := Option.isSome_iff_exists.1 hl.1
      have hc : P.cellsOf f.type = i.size := by simp [Program.cellsOf, hi]
      simp only [List.mapM_cons, Sem.run_bind, sizeOf_run hi, Result.andThen_ok, Sem.run_pure, ih hl.2, hc, List.map_cons]
  rw [Sem.run_map, this fs.toList hall]
  simp only [Result.andThen_ok, ← Array.toList_map, Array.toArray_toList]

theorem sees_build (he : ER c h w e a.tmps) {t : TypeId} {ps : Array (Nat × Operand)} {fs : Array Field} {i : TypeInfo} {z : Value} {l : List (Nat × Nat × AOpd)} (ho : o.op = .build t ps) (hu : P.underlying t = some (.struct fs))
    (hi : P.info? t = some i) (hz : i.zero = some z) (hk : (ofVal 4 z).known = true) (hall : fs.toList.all (fun f => (P.info? f.type).isSome) = true)
    (hl : ps.toList.mapM (fun (j, x) => (fs[j]?).bind fun f => (P.info? f.type).map fun g => (f.offset, g.size, cOpd x)) = some l)
    (hp : aop P Γ (.build (ofVal 4 z).cells l) e h k kp) : Sees P c h w a o k := by
  simp only [aop] at hp
  have hzv : VR c h w (ofVal 4 z) z := .pure (ofVal_vp 4 z)
  obtain ⟨hz1, hz2⟩ := vcells hzv (fun hh => by rw [hh] at hk; cases hk)
  have hl' : ps.toList.mapM (fun (j, x) => (((fs.map fun f => (f.offset, P.cellsOf f.type)) : Array (Nat × Nat))[j]?).map fun (off, sz) => (off, sz, cOpd x)) = some l := by
    rw [← hl]
    congr 1
    funext ⟨j, x⟩
    simp only [Array.getElem?_map]
    cases hf : fs[j]? with
    | none => rfl
    | some f =>
      have hmem : f ∈ fs.toList := by
        rw [← Array.getElem?_toList] at hf
        exact List.mem_of_getElem? hf
      obtain ⟨i, hi⟩ := Option.isSome_iff_exists.1 (List.all_eq_true.1 hall f hmem)
      simp [hi, Program.cellsOf]
  obtain ⟨cs', C', hk', hf, hcr⟩ := fillParts_run he (fun j => (fs.map fun f => (f.offset, P.cellsOf f.type))[j]?) ps.toList l (ofVal 4 z).cells z.cells hl' ⟨hz1, hz2⟩ hp
  refine .of _ (.agg C') hk' ?_ (.agg _ _ hcr.1 hcr.2)
  have hpl : (ps.map fun (i, x) => (i, a.eval x)).toList = ps.toList.map fun (i, x) => (i, a.eval x) := by simp
  simp only [execOp, ho, Instr.build, Sem.run_bind, zero_run hi hz, Result.andThen_ok, run_underlying hu, places_run fs hall, hpl, hf]
  rfl

/-- Elements, each of so many cells. -/
def LR (c : Cx) (h : Heap) (w : World) (sz : Nat) (elems : List SV) (C : Array Value) : Prop :=
  C.size = elems.length * sz ∧ (∀ v ∈ elems, v.cells.length = sz) ∧ ∀ (i j : Nat) (e v : SV) (x : Value), elems[i]? = some e → e.cells[j]? = some v → C[i * sz + j]? = some x → VR c h w v x

theorem fillElems_run (he : ER c h w e a.tmps) (sz : Nat) {K : List SV → Prop} : ∀ (ps : List (Nat × Operand)) (cs : List SV) (C : Array Value),
    LR c h w sz cs C → fillElems sz e (ps.map fun (j, x) => (j, cOpd x)) cs K →
    ∃ cs' C', K cs' ∧ Instr.fill (fun i => some (i * sz, sz)) C (ps.map fun (i, x) => (i, a.eval x)) = some C' ∧ LR c h w sz cs' C' ∧ cs'.length = cs.length
  | [], cs, C, hc, hp => ⟨cs, C, hp, rfl, hc, rfl⟩
  | (p, x) :: ps, cs, C, hc, hp => by
    simp only [List.map_cons, fillElems, evK_eq] at hp
    obtain ⟨hu, hp⟩ := cellsK_iff.1 hp
    replace hp := asr_iff.1 hp
    obtain ⟨hsz, hp⟩ := hp
    have hsz := Nat.eq_of_beq_eq_true hsz
    obtain ⟨hidx, hp⟩ := setL_iff.1 hp
    obtain ⟨hy1, hy2⟩ := vcells (he.ev x) hu
    have e0 : (p + 1) * sz ≤ cs.length * sz := Nat.mul_le_mul_right _ hidx
    rw [Nat.succ_mul] at e0
    obtain ⟨C1, h1, h2, h3⟩ := fill_cons (fun i => some (i * sz, sz)) C p (p * sz) sz (a.eval x) (ps.map fun (i, x) => (i, a.eval x)) rfl (by omega) (by rw [hc.1]; omega)
    obtain ⟨cs', C', hk, hf, hcr, hlen⟩ := fillElems_run he sz ps (cs.set p ((cOpd x).ev e)) C1 ⟨by rw [h2, hc.1]; simp, fun v hv => by
        rcases List.mem_or_eq_of_mem_set hv with hv | rfl
        · exact hc.2.1 v hv
        · exact hsz, fun i j ee v z hee hv hz => by
        rw [h3] at hz
        rw [List.getElem?_set] at hee
        by_cases hpi : p = i
        · subst hpi
          rw [if_pos rfl, if_pos hidx] at hee
          cases hee
          have hj : j < sz := by
            rw [← hsz]
            rcases Nat.lt_or_ge j ((cOpd x).ev e).cells.length with h | h
            · exact h
            · rw [List.getElem?_eq_none h] at hv; cases hv
          rw [if_pos (by omega)] at hz
          have : p * sz + j - p * sz = j := by omega
          rw [this] at hz
          exact hy2 j v z hv hz
        · rw [if_neg hpi] at hee
          have hj : j < sz := by
            rw [← hc.2.1 ee (List.mem_of_getElem? hee)]
            rcases Nat.lt_or_ge j ee.cells.length with h | h
            · exact h
            · rw [List.getElem?_eq_none h] at hv; cases hv
          have hout : ¬ (p * sz ≤ i * sz + j ∧ i * sz + j < p * sz + sz) := by
            intro ⟨q1, q2⟩
            rcases Nat.lt_or_gt_of_ne hpi with hlt | hlt
            · have : (p + 1) * sz ≤ i * sz := Nat.mul_le_mul_right _ hlt
              rw [Nat.succ_mul] at this
              omega
            · have : (i + 1) * sz ≤ p * sz := Nat.mul_le_mul_right _ hlt
              rw [Nat.succ_mul] at this
              omega
          rw [if_neg hout] at hz
          exact hc.2.2 i j ee v z hee hv hz⟩ hp
    exact ⟨cs', C', hk, by rw [List.map_cons, h1]; exact hf, hcr, by rw [hlen]; simp⟩

/-- A row of zero values. -/
theorem zeros_lr {z : Value} {sz : Nat} (hz : VR c h w (ofVal 4 z) z) (hk : (ofVal 4 z).known = true) (hs : (ofVal 4 z).cells.length = sz) (n : Nat) :
    LR c h w sz (List.replicate n (ofVal 4 z)) ((Array.range (n * sz)).map (z.cells[· % z.cells.size]!)) := by
  obtain ⟨h1, h2⟩ := vcells hz (fun hh => by rw [hh] at hk; cases hk)
  refine ⟨by simp, fun v hv => by rw [(List.mem_replicate.1 hv).2]; exact hs, fun i j ee v x he hv hx => ?_⟩
  obtain ⟨hi, rfl⟩ : i < n ∧ ofVal 4 z = ee := by
    rw [List.getElem?_replicate] at he
    split at he
    · rename_i h; exact ⟨h, Option.some.inj he⟩
    · cases he
  have hj : j < sz := by
    rw [← hs]
    rcases Nat.lt_or_ge j (ofVal 4 z).cells.length with h | h
    · exact h
    · rw [List.getElem?_eq_none h] at hv; cases hv
  have hzs : z.cells.size = sz := h1.trans hs
  have e0 : (i + 1) * sz ≤ n * sz := Nat.mul_le_mul_right _ hi
  rw [Nat.succ_mul] at e0
  have hmod : (i * sz + j) % z.cells.size = j := by rw [hzs, Nat.mul_comm, Nat.mul_add_mod, Nat.mod_eq_of_lt hj]
  have hjz : j < z.cells.size := by omega
  simp only [Array.getElem?_map, Array.getElem?_range] at hx
  rw [if_pos (by omega)] at hx
  simp only [Option.map_some, hmod, Option.some.injEq] at hx
  refine h2 j v x hv ?_
  rw [← hx]
  simp [hjz]

theorem range0 {α : Type} (f : Nat → α) : (Array.range 0).map f = #[] := Array.eq_empty_of_size_eq_zero (by simp)

theorem does_row (hr : Rep c h w) {sz len cap : Nat} {elems : List SV} {C : Array Value} {el : TypeId} (hlr : LR c h w sz elems C) (hlen : elems.length = cap) (hlc : len ≤ cap)
    (hrun : (execOp a.eval o).run P w = .ok (.value (.slice (some ⟨w.heap.size, 0, none⟩) len cap)) (w.alloc (.cells C el)))
    (hp : match h with | ⟨m, l⟩ => k (.sl m 0 sz 0 len (some cap)) ⟨m + 1, (m, .vec 0 sz elems ⟨false, some el⟩) :: l⟩) : Does P c h w a o k := by
  obtain ⟨n, l⟩ := h
  exact ⟨_, _, _, _, _, hp, .inl hrun, push_vec hr sz elems C el hlr.1.symm hlr.2.1 hlr.2.2, ext_push hr _ _, sl_new (heap_new _ _) hlc (by rw [hlr.1, hlen]; exact Nat.le_refl _)⟩

theorem buildSlice_run {P : Program} {w : World} {a : Act} {o : Oper} {t el : TypeId} {n : Nat} {ps : Array (Nat × Operand)} {i : TypeInfo} {z : Value} {C' : Array Value} (ho : o.op = .buildSlice t n ps) (hu : P.underlying t = some (.slice el))
    (hi : P.info? el = some i) (hz : i.zero = some z) (hn : n * i.size ≤ 16777216)
    (hf : Instr.fill (fun j => some (j * i.size, i.size)) ((Array.range (n * i.size)).map (z.cells[· % z.cells.size]!)) (ps.toList.map fun (j, x) => (j, a.eval x)) = some C') :
    (execOp a.eval o).run P w = .ok (.value (.slice (some ⟨w.heap.size, 0, none⟩) n n)) (w.alloc (.cells C' el)) := by
  have hpl : (ps.map fun (i, x) => (i, a.eval x)).toList = ps.toList.map fun (i, x) => (i, a.eval x) := by simp
  simp only [execOp, ho, Instr.buildSlice, Sem.run_bind, run_underlying hu, Result.andThen_ok, sizeOf_run hi]
  rw [if_neg (by omega)]
  by_cases h0 : n * i.size = 0
  · rw [if_pos h0]
    rw [h0] at hf
    simp only [range0] at hf
    simp only [Sem.run_bind, Sem.run_pure, Result.andThen_ok, h0, range0, hpl, hf]
    simp [newRow]
  · rw [if_neg h0]
    simp only [Sem.run_bind, zero_run hi hz, Sem.run_pure, Result.andThen_ok, hpl, hf]
    simp [newRow]

theorem does_buildSlice (hr : Rep c h w) (he : ER c h w e a.tmps) {t el : TypeId} {n : Nat} {ps : Array (Nat × Operand)} {i : TypeInfo} {z : Value} (ho : o.op = .buildSlice t n ps) (hu : P.underlying t = some (.slice el))
    (hi : P.info? el = some i) (hz : i.zero = some z) (hn : n * i.size ≤ 16777216) (hs : (ofVal 4 z).cells.length = i.size) (hk : (ofVal 4 z).known = true)
    (hp : aop P Γ (.buildSlice el i.size (ofVal 4 z) n (ps.toList.map fun (j, x) => (j, cOpd x))) e h k kp) : Does P c h w a o k := by
  simp only [aop, replK_eq] at hp
  have hzv : VR c h w (ofVal 4 z) z := .pure (ofVal_vp 4 z)
  obtain ⟨cs', C', hk', hf, hlr, hlen⟩ := fillElems_run he i.size ps.toList _ _ (zeros_lr hzv hk hs n) hp
  refine does_row hr hlr (len := n) (cap := n) (by simpa using hlen) (Nat.le_refl _) (el := el) (buildSlice_run ho hu hi hz hn hf) hk'

theorem wrap_i64 {n : Int} (h0 : -9223372036854775808 ≤ n) (h1 : n ≤ 9223372036854775807) : IntKind.i64.wrap n = n :=
  IntWalk.i64_in n ⟨h0, h1⟩

theorem does_makeSlice (hr : Rep c h w) (he : ER c h w e a.tmps) {t el : TypeId} {x y : Operand} {i : TypeInfo} {z : Value} (ho : o.op = .makeSlice t x y) (hu : P.underlying t = some (.slice el))
    (hi : P.info? el = some i) (hz : i.zero = some z) (hs : (ofVal 4 z).cells.length = i.size) (hk : (ofVal 4 z).known = true)
    (hp : aop P Γ (.makeSlice el i.size i.bytes (ofVal 4 z) (cOpd x) (cOpd y)) e h k kp) : Does P c h w a o k := by
  simp only [aop, evK_eq] at hp
  have hx := he.ev x
  have hy := he.ev y
  split at hp
  · rename_i k1 n k2 m h1 h2
    rw [h1] at hx; rw [h2] at hy
    replace hp := asr_iff.1 hp
    obtain ⟨hb, hp⟩ := hp
    simp only [Bool.and_eq_true, decide_eq_true_eq] at hb
    obtain ⟨⟨⟨b0, b1⟩, b2⟩, b3⟩ := hb
    have hzv : VR c h w (ofVal 4 z) z := .pure (ofVal_vp 4 z)
    refine does_row hr (zeros_lr hzv hk hs m.toNat) (len := n.toNat) (cap := m.toNat) (by simp) (by omega) (el := el) ?_ hp
    have hwn := wrap_i64 (n := n) (by omega) (by omega)
    have hwm := wrap_i64 (n := m) (by omega) (by omega)
    have ht1 : ¬ (m < 0) := by omega
    have ht2 : ¬ ((i.bytes : Int) * m > 2 ^ 48) := by
      have : (2 : Int) ^ 48 = 281474976710656 := by decide
      omega
    have hcond : (decide (m < 0) || decide ((i.bytes : Int) * m > 2 ^ 48) || decide (n < 0) || decide (n > m)) = false := by
      simp only [Bool.or_eq_false_iff, decide_eq_false_iff_not]
      exact ⟨⟨⟨ht1, ht2⟩, by omega⟩, by omega⟩
    simp only [execOp, ho, Instr.makeSlice, hx.int_inv, hy.int_inv, asInt, asIntOf, Sem.run_bind, Sem.run_pure, run_underlying hu, Result.andThen_ok, typeInfo, hi, run_program, hwn, hwm]
    rw [if_neg (by rw [hcond]; decide)]
    simp only [Sem.run_bind, run_askRoom, sizeOf_run hi, Result.andThen_ok]
    by_cases h0 : m.toNat * i.size = 0
    · rw [if_pos h0]
      simp [newRow, h0, range0]
    · rw [if_neg h0]
      simp [zero_run hi hz, newRow]
  · exact hp.elim
end
end Ab
