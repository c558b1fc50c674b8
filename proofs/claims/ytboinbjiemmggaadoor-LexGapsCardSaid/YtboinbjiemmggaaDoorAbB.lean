/- Appends: the three ways: in place, moved, new. -/
import Derived.Test.YtboinbjiemmggaaDoorAbA
namespace Ab
set_option linter.unusedVariables false
set_option linter.unusedSimpArgs false
open Go
section
variable {P : Program} {Γ : CallR} {c : Cx} {h : Heap} {w : World} {e : Env} {a : Act} {o : Oper} {k kp : SV → Heap → Prop}

theorem drew_ext : Ext c h w c h w.drew :=
  ⟨rfl, rfl, rfl, Nat.le_refl _, fun _ _ _ => rfl, fun _ _ => rfl, fun _ h => h, fun _ h => .inl h, Nat.le_refl _, fun _ o' _ h => ⟨o', h, Nat.le_refl _, rfl, fun _ => rfl⟩, fun _ o' h => .inr ⟨o', h, rfl⟩⟩
theorem drew_rep (hr : Rep c h w) : Rep c h w.drew :=
  ⟨hr.lt, fun i o ho => (hr.obj i o ho).mono hr drew_ext rfl, hr.inj, hr.apart, hr.im, hr.globx drew_ext⟩

/-- A named row written in place; its names may grow old by it. -/
theorem ext_put2 {n : Nat} {l : List (Nat × AObj)} {i g g2 sz : Nat} {elems elems' : List SV} {sk sk2 : Sk} {w' : World} (ho : objL l i = some (.vec g sz elems sk)) (hg : g ≤ g2)
    (e1 : w'.os = w.os) (e2 : w'.tape = w.tape) (e3 : w'.output = w.output) (e4 : w'.heap.size = w.heap.size) (e5 : ∀ b', b' ≠ c.β i → w'.heap[b']? = w.heap[b']?) (e6 : w'.shape? (c.β i) = w.shape? (c.β i)) :
    Ext c ⟨n, l⟩ w c ⟨n, putO l i (.vec g2 sz elems' sk2)⟩ w' where
  os := e1
  tape := e2
  output := e3
  size := by omega
  frame b hb hn := e5 b (fun e => hn i _ ho e.symm)
  shape b hb := by
    by_cases h : b = c.β i
    · rw [h]; exact e6
    · simp only [World.shape?, e5 b h]
  im _ hb := hb
  im' _ hb := .inl hb
  nxt := Nat.le_refl _
  old j o' hj ho' := by
    simp only [Heap.obj, objL_put] at ho'
    by_cases h : j = i
    · subst h
      rw [if_pos rfl, ho] at ho'
      cases ho'
      exact ⟨_, ho, hg, rfl, fun _ => rfl⟩
    · rw [if_neg h] at ho'
      exact ⟨o', ho', Nat.le_refl _, rfl, fun _ => rfl⟩
  new j o' ho' := by
    simp only [Heap.obj, objL_put] at ho'
    by_cases h : j = i
    · subst h; exact .inr ⟨_, ho, rfl⟩
    · rw [if_neg h] at ho'; exact .inr ⟨o', ho', rfl⟩

theorem rep_put2 {n : Nat} {l : List (Nat × AObj)} {i g g2 sz : Nat} {elems elems' : List SV} {sk sk2 : Sk} {w' : World} {C' : Array Value} {ty : TypeId} {fz : Nat × Nat} (hr : Rep c ⟨n, l⟩ w) (ho : objL l i = some (.vec g sz elems sk))
    (hx : Ext c ⟨n, l⟩ w c ⟨n, putO l i (.vec g2 sz elems' sk2)⟩ w') (e4 : w'.heap.size = w.heap.size) (e5 : ∀ b', b' ≠ c.β i → w'.heap[b']? = w.heap[b']?) (e6 : w'.heap[c.β i]? = some (.cells C' ty fz))
    (hle : elems'.length * sz ≤ C'.size) (heq : sk2.slack = false → elems'.length * sz = C'.size) (hty : ∀ t, sk2.ty = some t → t = ty) (hc : ∀ v ∈ elems', v.cells.length = sz) (hf : ∀ k, k < C'.size → ¬ (fz.1 ≤ k ∧ k < fz.2))
    (hcell : ∀ (p j : Nat) (e v : SV) (x : Value), elems'[p]? = some e → e.cells[j]? = some v → C'[p * sz + j]? = some x → VR c ⟨n, l⟩ w v x) : Rep c ⟨n, putO l i (.vec g2 sz elems' sk2)⟩ w' := by
  have key : ∀ j o', (Heap.mk n (putO l i (.vec g2 sz elems' sk2))).obj j = some o' → (j = i ∧ o' = .vec g2 sz elems' sk2) ∨ (j ≠ i ∧ objL l j = some o') := by
    intro j o' ho'
    simp only [Heap.obj, objL_put] at ho'
    by_cases h : j = i
    · rw [if_pos h, ho] at ho'; cases ho'; exact .inl ⟨h, rfl⟩
    · rw [if_neg h] at ho'; exact .inr ⟨h, ho'⟩
  have key2 : ∀ j o', (Heap.mk n (putO l i (.vec g2 sz elems' sk2))).obj j = some o' → ∃ o'', objL l j = some o'' := by
    intro j o' ho'
    rcases key j o' ho' with ⟨rfl, _⟩ | ⟨_, h⟩
    · exact ⟨_, ho⟩
    · exact ⟨_, h⟩
  refine ⟨fun j o' ho' => ?_, fun j o' ho' => ?_, fun j j' o' p' ho' hp' he => ?_, fun j o' ho' => ?_, fun b hb => ?_, hr.globx hx⟩
  · obtain ⟨o'', h⟩ := key2 j o' ho'; exact hr.lt j o'' h
  · rcases key j o' ho' with ⟨rfl, rfl⟩ | ⟨hj, h⟩
    · exact .vec g2 sz elems' sk2 C' ty fz e6 hle heq hty hc hf fun p j' e v x h1 h2 h3 => (hcell p j' e v x h1 h2 h3).mono hr hx
    · exact (hr.obj j o' h).mono hr hx (e5 _ fun he => hj (hr.inj j i _ _ h ho he))
  · obtain ⟨o'', h⟩ := key2 j o' ho'
    obtain ⟨p'', h'⟩ := key2 j' p' hp'
    exact hr.inj j j' _ _ h h' he
  · obtain ⟨o'', h⟩ := key2 j o' ho'; exact hr.apart j o'' h
  · rw [e4]; exact hr.im b hb

/-- A named row that moved: its name means the new block from now on. -/
theorem ext_move {n : Nat} {l : List (Nat × AObj)} {i g sz : Nat} {elems elems' : List SV} {sk sk2 : Sk} (ho : objL l i = some (.vec g sz elems sk)) (cb : Obj) :
    Ext c ⟨n, l⟩ w (c.push i w.heap.size) ⟨n, putO l i (.vec (g + 1) sz elems' sk2)⟩ (w.alloc cb) where
  os := rfl
  tape := rfl
  output := rfl
  size := by rw [heap_size]; omega
  frame b hb _ := heap_push w cb b hb
  shape b hb := by simp only [World.shape?, heap_push w cb b hb]
  im _ hb := hb
  im' _ hb := .inl hb
  nxt := Nat.le_refl _
  old j o' hj ho' := by
    simp only [Heap.obj, objL_put] at ho'
    by_cases h : j = i
    · subst h
      rw [if_pos rfl, ho] at ho'
      cases ho'
      exact ⟨_, ho, Nat.le_succ _, rfl, fun e => by simp [AObj.gen] at e⟩
    · rw [if_neg h] at ho'
      exact ⟨o', ho', Nat.le_refl _, rfl, fun _ => by simp [Cx.push, h]⟩
  new j o' ho' := by
    simp only [Heap.obj, objL_put] at ho'
    by_cases h : j = i
    · subst h; left; simp [Cx.push]
    · rw [if_neg h] at ho'; exact .inr ⟨o', ho', by simp [Cx.push, h]⟩

theorem rep_move {n : Nat} {l : List (Nat × AObj)} {i g sz : Nat} {elems elems' : List SV} {sk : Sk} {C' : Array Value} {ty : TypeId} (hr : Rep c ⟨n, l⟩ w) (ho : objL l i = some (.vec g sz elems sk))
    {tyo : Option TypeId} (hty : ∀ t, tyo = some t → t = ty) (hle : elems'.length * sz ≤ C'.size) (hc : ∀ v ∈ elems', v.cells.length = sz)
    (hcell : ∀ (p j : Nat) (e v : SV) (x : Value), elems'[p]? = some e → e.cells[j]? = some v → C'[p * sz + j]? = some x → VR c ⟨n, l⟩ w v x) :
    Rep (c.push i w.heap.size) ⟨n, putO l i (.vec (g + 1) sz elems' ⟨true, tyo⟩)⟩ (w.alloc (.cells C' ty)) := by
  have hx : Ext c ⟨n, l⟩ w (c.push i w.heap.size) ⟨n, putO l i (.vec (g + 1) sz elems' ⟨true, tyo⟩)⟩ (w.alloc (.cells C' ty)) := ext_move ho _
  have key : ∀ j o', (Heap.mk n (putO l i (.vec (g + 1) sz elems' ⟨true, tyo⟩))).obj j = some o' → (j = i ∧ o' = .vec (g + 1) sz elems' ⟨true, tyo⟩) ∨ (j ≠ i ∧ objL l j = some o') := by
    intro j o' ho'
    simp only [Heap.obj, objL_put] at ho'
    by_cases h : j = i
    · rw [if_pos h, ho] at ho'; cases ho'; exact .inl ⟨h, rfl⟩
    · rw [if_neg h] at ho'; exact .inr ⟨h, ho'⟩
  have hβ : ∀ j, j ≠ i → (c.push i w.heap.size).β j = c.β j := fun j hj => by simp [Cx.push, hj]
  have hβi : (c.push i w.heap.size).β i = w.heap.size := by simp [Cx.push]
  refine ⟨fun j o' ho' => ?_, fun j o' ho' => ?_, fun j j' o' p' ho' hp' he => ?_, fun j o' ho' => ?_, fun b hb => ?_, hr.globx hx⟩
  · rcases key j o' ho' with ⟨rfl, _⟩ | ⟨_, h⟩
    · exact hr.lt _ _ ho
    · exact hr.lt j _ h
  · rcases key j o' ho' with ⟨rfl, rfl⟩ | ⟨hj, h⟩
    · rw [hβi]
      exact .vec (g + 1) sz elems' ⟨true, tyo⟩ C' ty (0, 0) (heap_new _ _) hle (fun e => by cases e) hty hc (by simp) fun p j' e v x h1 h2 h3 => (hcell p j' e v x h1 h2 h3).mono hr hx
    · rw [hβ j hj]
      exact (hr.obj j o' h).mono hr hx (heap_push w _ _ (hr.obj j o' h).lt)
  · rcases key j o' ho' with ⟨rfl, _⟩ | ⟨hj, h⟩ <;> rcases key j' p' hp' with ⟨rfl, _⟩ | ⟨hj', h'⟩
    · rfl
    · rw [hβi, hβ j' hj'] at he
      have := (hr.obj j' p' h').lt
      omega
    · rw [hβi, hβ j hj] at he
      have := (hr.obj j o' h).lt
      omega
    · rw [hβ j hj, hβ j' hj'] at he
      exact hr.inj j j' _ _ h h' he
  · rcases key j o' ho' with ⟨rfl, _⟩ | ⟨hj, h⟩
    · rw [hβi]
      intro hb
      have : w.heap.size < w.heap.size := hr.im _ hb
      omega
    · rw [hβ j hj]; exact hr.apart j o' h
  · rw [heap_size]
    have : b < w.heap.size := hr.im b hb
    omega

theorem sl_at {n : Nat} {l : List (Nat × AObj)} {i g sz len cc : Nat} {elems : List SV} {sk : Sk} {w' : World} {C : Array Value} {ty : TypeId} {fz : Nat × Nat} {cap : Option Nat} {off : Nat} (hi : i < n) (ho : objL l i = some (.vec g sz elems sk))
    (hb : w'.heap[c.β i]? = some (.cells C ty fz)) (hlc : len ≤ cc) (hcap : ∀ k, cap = some k → cc = k) (hC : off * sz + cc * sz ≤ C.size) (hfu : cap = none → off * sz + cc * sz = C.size) : VR c ⟨n, l⟩ w' (.sl i g sz off len cap) (.slice (some ⟨c.β i, off * sz, none⟩) len cc) :=
  .sl _ _ _ _ _ _ _ ⟨_, _, _, rfl⟩ hi (fun o' ho' => by
    have ho'' : objL l i = some o' := ho'
    rw [ho] at ho''; cases ho''; exact Nat.le_refl _) fun o' ho' _ => by
    have ho'' : objL l i = some o' := ho'
    rw [ho] at ho''; cases ho''
    exact ⟨rfl, _, _, rfl, hlc, hcap, .inr ⟨rfl, ty, C.size, by simp [World.shape?, hb], hC⟩, fun h => ⟨ty, C.size, by simp [World.shape?, hb], hfu h⟩⟩

theorem objL_putS (l : List (Nat × AObj)) (i : Nat) (o o' : AObj) (ho : objL l i = some o) : objL (putO l i o') i = some o' := by
  rw [objL_put, if_pos rfl, ho]; rfl

theorem cells_zero {z : Value} {sz : Nat} (hk : (ofVal 4 z).known = true) (hs : (ofVal 4 z).cells.length = sz) : z.cells.size = sz := by
  have hz : VR ⟨fun _ => 0, fun _ => False⟩ ⟨0, []⟩ default (ofVal 4 z) z := .pure (ofVal_vp 4 z)
  exact (vcells hz (fun hh => by rw [hh] at hk; cases hk)).1.trans hs

/-- The cells of a row that grew. -/
theorem grown_cells {sz : Nat} {elems : List SV} {vals : List Value} (hl : LW c h w sz elems vals) (rest : Array Value) : elems.length * sz ≤ (vals.toArray ++ rest).size ∧ (∀ v ∈ elems, v.cells.length = sz) ∧
    ∀ (p j : Nat) (e v : SV) (x : Value), elems[p]? = some e → e.cells[j]? = some v → (vals.toArray ++ rest)[p * sz + j]? = some x → VR c h w v x := by
  refine ⟨by simp [hl.1], hl.2.1, fun p j e v x he hv hx => ?_⟩
  have hj : j < sz := by rw [← hl.2.1 e (List.mem_of_getElem? he)]; exact getq_lt hv
  have hlt : p * sz + j < vals.length := by rw [hl.1]; exact idx_lt (getq_lt he) hj
  rw [Array.getElem?_append, if_pos (by simpa using hlt)] at hx
  exact hl.2.2 p j e v x he hv (by simpa using hx)

theorem joinTy_some {a : Option TypeId} {u t : TypeId} (h : joinTy a u = some t) : a = some t ∧ t = u := by
  unfold joinTy at h
  split at h
  · rename_i t'
    rcases beq_cases t' u with ⟨h1, h2⟩ | ⟨h1, _⟩
    · rw [h1] at h
      have h' : some u = some t := h
      cases h'
      exact ⟨by rw [h2], rfl⟩
    · rw [h1] at h; cases h
  · cases h

theorem does_append (hr : Rep c h w) (he : ER c h w e a.tmps) {cl : Call} {x y : Operand} {t u el : TypeId} {i : TypeInfo} {z : Value} (ho : o.op = .call cl) (hcl : cl.callee = .builtin .append) (hargs : cl.args.toList = [x, y]) (htys : cl.argTypes.toList = [t, u])
    (ht : P.underlying t = some (.slice el)) (hu : (∃ e', P.underlying u = some (.slice e')) ∨ P.underlying u = some .string) (hi : P.info? el = some i) (hz : i.zero = some z) (hs : (ofVal 4 z).cells.length = i.size) (hk : (ofVal 4 z).known = true)
    (hp : aop P Γ (.append el i.size i.bytes (cOpd x) (cOpd y)) e h k kp) : Does P c h w a o k := by
  simp only [aop, evK_eq, appendK] at hp
  have hx := he.ev x
  have hy := he.ev y
  generalize (cOpd x).ev e = sx at hp hx
  have hsrc0 := elemsK_src hr hy hp hu
  clear hp
  obtain ⟨xs, news, hp, hL, hsrc, _⟩ := hsrc0
  have hzs : z.cells.size = i.size := cells_zero hk hs
  have hargs' : cl.args = #[x, y] := by simpa using congrArg List.toArray hargs
  have htys' : cl.argTypes = #[t, u] := by simpa using congrArg List.toArray htys
  have hrun : ∀ v' w', (Builtin.append_ #[t, u] o.type #[a.eval x, a.eval y]).run P w = .ok v' w' → (execOp a.eval o).run P w = .ok (.value v') w' := by
    intro v' w' hrun
    simp [execOp, ho, resolve, hcl, hargs', htys', invoke, builtin, hrun]
  split at hp
  · -- nothing is appended
    simp only [LW, List.length_nil, Nat.zero_mul] at hL
    obtain ⟨hl0, _, _⟩ := hL
    have hn0 : news = [] := List.eq_nil_of_length_eq_zero hl0
    subst hn0
    have hs0 := hsrc (fun u hu => by cases hu)
    simp only [List.length_nil] at hs0
    have hroom : ∀ base sLen sCap, a.eval x = .slice base sLen sCap → sLen ≤ sCap → (execOp a.eval o).run P w = .ok (.value (.slice base sLen sCap)) w := by
      intro base sLen sCap hxe hle
      refine hrun _ _ ?_
      rw [hxe]
      rcases hs0.kind with ⟨e', hk⟩ | hk <;> cases base <;> simp [Builtin.append_, run_underlying ht, run_underlying hk, Go.sizeOf, typeInfo, hi, hs0.len, hle, hs0.cells, storeCells]
    split at hp
    · exact (Sees.of _ _ hp (hroom _ _ _ hx.nils_inv (Nat.le_refl _)) (.pure .nils)).does hr
    · obtain ⟨hp, sz', elems, sk, hob⟩ := liveK_inv hp
      obtain ⟨_, ad, cc, hxe, hlc, _, _⟩ := hx.sl_inv hob rfl
      exact (Sees.of _ _ hp (hroom _ _ _ hxe hlc) (hxe ▸ hx)).does hr
    · obtain ⟨ad, cap, hxe, hlc, _⟩ := hx.lst_inv
      exact (Sees.of _ _ hp (hroom _ _ _ hxe hlc) (hxe ▸ hx)).does hr
    · exact hp.elim
  · rename_i x0 xr
    generalize hxs : x0 :: xr = xs at hp hL hsrc
    have hpos : 0 < xs.length := by rw [← hxs]; simp
    replace hp := asr_iff.1 hp
    obtain ⟨hone, hp⟩ := hp
    have hs1 := hsrc (hL.one hone)
    -- a new row
    have grow : ∀ (base : Option Addr) (sLen sCap : Nat) (els : List SV) (olds : List Value), a.eval x = .slice base sLen sCap → LW c h w i.size els olds → els.length = sLen →
        (Builtin.firstCells i.size sLen (.slice base sLen sCap)).run P w.drew = .ok olds.toArray w.drew → sCap < sLen + xs.length → (sLen + xs.length ≤ 9223372036854775807 ∧ (sLen + xs.length) * i.bytes ≤ 140737488355328) →
        ∃ rest ncap, (execOp a.eval o).run P w = .ok (.value (.slice (some ⟨w.heap.size, 0, none⟩) (sLen + xs.length) ncap)) (w.drew.alloc (.cells ((olds ++ news).toArray ++ rest) el)) ∧ sLen + xs.length ≤ ncap ∧ ncap * i.size = ((olds ++ news).toArray ++ rest).size := by
      intro base sLen sCap els olds hxe hLo hels hold hg ⟨h63, hbytes⟩
      refine ⟨Builtin.zeroCells z.cells (grownCap w (sLen + xs.length) sCap el - (sLen + xs.length)), grownCap w (sLen + xs.length) sCap el, hrun _ _ ?_, grownCap_ge w _ _ _, ?_⟩
      · rw [hxe]
        exact run_append_grow_src (P := P) w t u o.type el i z ht hi hz base sLen sCap olds hold (a.eval y) xs.length news hs1 hg (by omega) (growslice_fits hg hbytes)
      · have hge := grownCap_ge w (sLen + xs.length) sCap el
        simp only [Array.size_append, List.size_toArray, List.length_append, hLo.1, hL.1, hels, size_zeroCells, hzs]
        rw [← Nat.add_mul, ← Nat.add_mul]
        exact congrArg (· * i.size) (by omega)
    have fresh : ∀ (base : Option Addr) (sLen sCap : Nat) (els : List SV) (olds : List Value) (K : SV → Heap → Prop), a.eval x = .slice base sLen sCap → LW c h w i.size els olds → els.length = sLen →
        (Builtin.firstCells i.size sLen (.slice base sLen sCap)).run P w.drew = .ok olds.toArray w.drew → sCap < sLen + xs.length → (sLen + xs.length ≤ 9223372036854775807 ∧ (sLen + xs.length) * i.bytes ≤ 140737488355328) →
        K (.sl h.nxt 0 i.size 0 (sLen + xs.length) none) ⟨h.nxt + 1, (h.nxt, .vec 0 i.size (els ++ xs) ⟨true, some el⟩) :: h.l⟩ → Does P c h w a o K := by
      intro base sLen sCap els olds K hxe hLo hels hold hg hroom hK
      obtain ⟨rest, ncap, hr1, hn1, hn2⟩ := grow base sLen sCap els olds hxe hLo hels hold hg hroom
      obtain ⟨n, l⟩ := h
      have hall := grown_cells (hLo.append hL) rest
      have hrd := drew_rep hr
      have hdx : Ext c ⟨n, l⟩ w c ⟨n, l⟩ w.drew := drew_ext
      refine ⟨_, _, _, c.push n w.heap.size, _, hK, .inl hr1, rep_push hrd _ _ (.vec 0 i.size _ ⟨true, some el⟩ _ el (0, 0) (heap_new _ _) hall.1 (fun e => by cases e) (fun _ h => (Option.some.inj h).symm) hall.2.1 (by simp) fun p j e v x' h1 h2 h3 => ((hall.2.2 p j e v x' h1 h2 h3).mono hr hdx).mono hrd (ext_push hrd _ _)),
        hdx.trans hr (ext_push hrd _ _), ?_⟩
      exact .sl _ _ _ _ _ _ _ ⟨_, _, _, rfl⟩ (Nat.lt_succ_self _) (fun _ _ => Nat.zero_le _) fun o' ho' _ => by
        rw [obj_push, if_pos rfl] at ho'; cases ho'
        have hsh : (w.drew.alloc (.cells ((olds ++ news).toArray ++ rest) el)).shape? ((c.push n w.heap.size).β n) = some (el, ((olds ++ news).toArray ++ rest).size) := by simp only [World.shape?, Cx.push, if_pos]; rw [show w.heap.size = w.drew.heap.size from rfl, heap_new]
        refine ⟨rfl, _, _, rfl, hn1, fun k hk => (by cases hk), .inr ⟨by simp [Cx.push], el, _, hsh, by omega⟩, fun _ => ⟨el, _, hsh, by omega⟩⟩
    split at hp
    · -- onto nil
      replace hp := asr_iff.1 hp
      obtain ⟨hroom, hp⟩ := hp
      simp only [Bool.and_eq_true, decide_eq_true_eq] at hroom
      refine fresh none 0 0 [] [] k hx.nils_inv ⟨by simp, fun v hv => by simp at hv, fun i j e v x he => by simp at he⟩ rfl (run_firstCells_none w.drew i.size 0 0 0) (by omega) (by simpa using hroom) ?_
      obtain ⟨n, l⟩ := h
      simpa using hp
    · rename_i ii g sz' off len cap
      replace hp := asr_iff.1 hp
      obtain ⟨hsz, hp⟩ := hp
      have hsz := Nat.eq_of_beq_eq_true hsz
      subst hsz
      obtain ⟨n, l⟩ := h
      simp only [lookO_eq] at hp
      split at hp
      · rename_i ob hob
        split at hp
        · rename_i g' szo elems sk
          replace hp := asr_iff.1 hp
          obtain ⟨hg, hp⟩ := hp
          have hg := Nat.eq_of_beq_eq_true hg
          subst hg
          obtain ⟨hsz', ad, cc, hxe, hlc, hcap, hor⟩ := hx.sl_inv (o := .vec g' szo elems sk) hob rfl
          simp only [AObj.sz] at hsz'
          have hin : ii < n := hr.lt ii _ hob
          -- the elements that are there
          have olds : off + len ≤ elems.length → ∃ vals, LW c ⟨n, l⟩ w i.size ((elems.drop off).take len) vals ∧ ((elems.drop off).take len).length = len ∧ (Builtin.firstCells i.size len (.slice (some ad) len cc)).run P w.drew = .ok vals.toArray w.drew := by
            intro hle
            have htl : ((elems.drop off).take len).length = len := by simp; omega
            rcases hor with h0 | ⟨rfl, ty, m, hsh, hle'⟩
            · have hl0 : len = 0 := by omega
              subst hl0
              refine ⟨[], ⟨by simp, fun v hv => by simp at hv, fun i j e v x he => by simp at he⟩, by simp, ?_⟩
              exact run_firstCells_some w.drew i.size 0 ad 0 cc [] (by simp) (fun j u hu => by simp at hu)
            · obtain ⟨vals, hLv, hvl, hcl⟩ := row_cells hr (i := ii) (g := g') (sz := szo) (elems := elems) (sk := sk) hob hle
              rw [hsz'] at hLv hvl hcl
              exact ⟨vals, hLv, htl, run_firstCells_some w.drew i.size len _ len cc vals hvl (by simpa using hcl)⟩
          -- in place
          have place : ∀ (g2 : Nat) (sk2 : Sk) (elems' : List SV) (cap' : Option Nat), (cap' = none → cap = none) → g' ≤ g2 → len + xs.length ≤ cc → (∀ k, cap' = some k → cc = k) → off + len ≤ elems.length → 
              (∀ p, elems'[p]? = if off + len ≤ p ∧ p < off + len + xs.length then xs[p - (off + len)]? else elems[p]?) → (sk2.slack = false → sk.slack = false ∧ elems'.length = elems.length) → (∀ t, sk2.ty = some t → sk.ty = some t) → 
              k (.sl ii g2 i.size off (len + xs.length) cap') ⟨n, putO l ii (.vec g2 szo elems' sk2)⟩ → Does P c ⟨n, l⟩ w a o k := by
            intro g2 sk2 elems' cap' hcn hgg hfit hcap' hle hel hsk hskt hK
            rcases hor with h0 | ⟨rfl, ty, m, hsh, hle'⟩
            · omega
            · cases hr.obj ii _ hob with
              | vec _ _ _ _ C ty' fz hw hleC heq hty hc hf hcell =>
                have hmC : m = C.size := by
                  simp only [World.shape?, hw, Option.some.injEq, Prod.mk.injEq] at hsh
                  exact hsh.2.symm
                have e0 : (len + xs.length) * i.size ≤ cc * i.size := Nat.mul_le_mul_right _ hfit
                rw [Nat.add_mul] at e0
                obtain ⟨w', C', hst, e1, e2, e3, e4, e5, e6, e7, e8⟩ := storeCells_run P (c.β ii) (off * i.size + len * i.size) ty' fz news 0 C w hw hf (by
                  right; rw [hL.1, ← hmC]; omega) hs1.one
                have hshape : w'.shape? (c.β ii) = w.shape? (c.β ii) := by simp only [World.shape?, e6, hw, e7]
                have hxx := ext_put2 (n := n) (elems' := elems') (sk2 := sk2) hob hgg e1 e2 e3 e4 e5 hshape
                have hlen' : elems'.length * szo ≤ C'.size := by
                  rcases Nat.lt_or_ge (off + len + xs.length) elems.length with hlt | hge
                  · have : elems'.length ≤ elems.length := by
                      rcases Nat.lt_or_ge elems.length elems'.length with hh | hh
                      · have h1 := hel elems.length
                        rw [if_neg (by omega), List.getElem?_eq_none (Nat.le_refl _)] at h1
                        rw [List.getElem?_eq_getElem hh] at h1; cases h1
                      · exact hh
                    have := Nat.mul_le_mul_right szo this
                    rw [e7]; omega
                  · have : elems'.length ≤ off + len + xs.length := by
                      rcases Nat.lt_or_ge (off + len + xs.length) elems'.length with hh | hh
                      · have h1 := hel (off + len + xs.length)
                        rw [if_neg (by omega), List.getElem?_eq_none hge] at h1
                        rw [List.getElem?_eq_getElem hh] at h1; cases h1
                      · exact hh
                    have := Nat.mul_le_mul_right szo this
                    rw [hsz', Nat.add_mul, Nat.add_mul] at this
                    rw [e7, ← hmC, hsz']; omega
                have hmem' : ∀ v ∈ elems', v.cells.length = szo := by
                  intro v hv
                  obtain ⟨p, hp⟩ := List.mem_iff_getElem?.1 hv
                  rw [hel] at hp
                  split at hp
                  · rw [hsz']; exact hL.2.1 v (List.mem_of_getElem? hp)
                  · exact hc v (List.mem_of_getElem? hp)
                refine ⟨_, .slice (some ⟨c.β ii, off * i.size, none⟩) (len + xs.length) cc, _, c, w', hK, .inl (hrun _ _ ?_), rep_put2 hr hob hxx e4 e5 e6 hlen' (fun hsk2 => ?_) (fun t ht => hty t (hskt t ht)) hmem' (by rw [e7]; exact hf) (fun p j ee v z' hpe hv hz' => ?_), hxx, ?_⟩
                · rw [hxe]
                  rcases hs1.kind with ⟨e', hk⟩ | hk <;> simp [Builtin.append_, run_underlying ht, run_underlying hk, Go.sizeOf, typeInfo, hi, hs1.len, hfit, hs1.cells, add_eq, hst]
                · obtain ⟨h1, h2⟩ := hsk hsk2
                  rw [h2, e7]; exact heq h1
                · have hj : j < szo := by rw [← hmem' ee (List.mem_of_getElem? hpe)]; exact getq_lt hv
                  rw [e8] at hz'
                  simp only [Nat.add_zero] at hz'
                  rw [hel] at hpe
                  by_cases hin2 : off + len ≤ p ∧ p < off + len + xs.length
                  · rw [if_pos hin2] at hpe
                    have e9 : p * szo = off * i.size + len * i.size + (p - (off + len)) * szo := by
                      rw [hsz', ← Nat.add_mul, ← Nat.add_mul]; congr 1; omega
                    have hlt2 := idx_lt (sz := szo) (getq_lt hpe) hj
                    rw [← hsz'] at hL
                    rw [if_pos (by rw [hL.1]; omega)] at hz'
                    refine hL.2.2 _ j ee v z' hpe hv ?_
                    rw [← hz']
                    congr 1
                    omega
                  · rw [if_neg hin2] at hpe
                    have hout : ¬ (off * i.size + len * i.size ≤ p * szo + j ∧ p * szo + j < off * i.size + len * i.size + news.length) := by
                      intro ⟨q1, q2⟩
                      rw [hL.1, ← hsz', ← Nat.add_mul, ← Nat.add_mul] at q2
                      rw [← hsz', ← Nat.add_mul] at q1
                      rcases Nat.lt_or_ge p (off + len) with hlt | hge
                      · have := idx_lt (sz := szo) hlt hj
                        omega
                      · have : off + len + xs.length ≤ p := by omega
                        have := Nat.mul_le_mul_right szo this
                        omega
                    rw [if_neg hout] at hz'
                    exact hcell p j ee v z' hpe hv hz'
                · have := sl_at (c := c) (off := off) (n := n) (w' := w') (cc := cc) (len := len + xs.length) (cap := cap') hin (objL_putS l ii _ (.vec g2 szo elems' sk2) hob) e6 hfit hcap' (by rw [e7, ← hmC, hsz']; exact hle') (fun hc => by
                    have hcap0 := hcn hc
                    subst hcap0
                    obtain ⟨ty2, m2, hs2, he2⟩ := hx.sl_full (o := .vec g' szo elems sk) hob rfl hxe
                    rw [hsh] at hs2
                    cases hs2
                    rw [e7, ← hmC, hsz']; exact he2)
                  rw [hsz'] at this
                  rw [← hsz'] at this ⊢
                  exact this
          split at hp
          · -- the capacity is known
            rename_i cp
            have hcc := hcap cp rfl
            rcases brE hp with ⟨hb, hp⟩ | ⟨hb, hp⟩
            · have hfit := Nat.le_of_ble_eq_true hb
              obtain ⟨hrn, hp⟩ := setRun_iff.1 hp
              rw [setO_eq] at hp
              have hrn : off + len + xs.length ≤ elems.length := by
                rcases hrn with h | h
                · rw [h] at hpos; simp at hpos
                · exact h
              refine place g' sk _ (some cp) (fun h => by cases h) (Nat.le_refl _) (by omega) (fun k hk => by cases hk; exact hcc) (by omega) (fun p => setAll_get _ _ _ _ hrn) (fun hs => ⟨hs, setAll_length _ _ _⟩) (fun _ h => h) hp
            · have hfit : ¬ (len + xs.length ≤ cp) := fun hle => by
                rw [Nat.ble_eq_true_of_le hle] at hb; cases hb
              replace hp := asr_iff.1 hp
              obtain ⟨hroom, hp⟩ := hp
              simp only [Bool.and_eq_true, decide_eq_true_eq] at hroom
              obtain ⟨hl1, hp⟩ := dropN_iff.1 hp
              obtain ⟨hl2, hp⟩ := takeN_iff.1 hp
              rw [appL_eq] at hp
              simp only [List.length_drop] at hl2
              obtain ⟨vals, hLv, htl, hold⟩ := olds (by omega)
              exact fresh _ len cc _ vals k hxe hLv htl hold (by omega) hroom hp
          · -- it is not
            have hbr := brE hp
            clear hp
            rcases hbr with ⟨hb, hp⟩ | ⟨_, hp⟩
            · simp only [Bool.and_eq_true] at hb
              have hs0 : 0 < i.size := Nat.lt_of_succ_le (Nat.le_of_ble_eq_true hb.1)
              have hle := Nat.le_of_ble_eq_true hb.2
              obtain ⟨_, hp⟩ := setRun_iff.1 hp
              rw [setO_eq] at hp
              obtain ⟨ty2, m2, hs2, he2⟩ := hx.sl_full (o := .vec g' szo elems sk) hob rfl hxe
              have hfit : len + xs.length ≤ cc := by
                cases hr.obj ii _ hob with
                | vec _ _ _ _ C ty' fz hw hleC _ _ _ _ _ =>
                  have hm2 : m2 = C.size := by
                    simp only [World.shape?, hw, Option.some.injEq, Prod.mk.injEq] at hs2
                    exact hs2.2.symm
                  have h1 : (off + (len + xs.length)) * i.size ≤ (off + cc) * i.size := by
                    rw [Nat.add_mul off cc, he2, hm2]
                    refine Nat.le_trans (Nat.mul_le_mul_right _ ?_) (hsz' ▸ hleC)
                    omega
                  have h2 := Nat.le_of_mul_le_mul_right h1 hs0
                  omega
              exact place g' sk _ none (fun _ => rfl) (Nat.le_refl _) hfit (fun k hk => by cases hk) (by omega) (fun p => setAll_get _ _ _ _ hle) (fun hs => ⟨hs, setAll_length _ _ _⟩) (fun _ h => h) hp
            replace hp := asr_iff.1 hp
            obtain ⟨hcond, hp⟩ := hp
            simp only [Bool.and_eq_true, decide_eq_true_eq] at hcond
            obtain ⟨⟨hoff, hlen⟩, hroom⟩ := hcond
            have hoff := Nat.eq_of_beq_eq_true hoff
            have hlen := Nat.eq_of_beq_eq_true hlen
            subst hoff
            rw [appL_eq, setO_eq] at hp
            by_cases hfit : len + xs.length ≤ cc
            · refine place (g' + 1) ⟨true, joinTy sk.ty el⟩ (elems ++ xs) none (fun _ => rfl) (Nat.le_succ _) hfit (fun k hk => by cases hk) (by omega) (fun p => ?_) (fun hs => by cases hs) (fun t ht => (joinTy_some ht).1) hp
              rw [List.getElem?_append]
              by_cases h1 : p < elems.length
              · rw [if_pos h1, if_neg (by omega)]
              · rw [if_neg h1]
                by_cases h2 : 0 + len ≤ p ∧ p < 0 + len + xs.length
                · rw [if_pos h2]; congr 1; omega
                · rw [if_neg h2, List.getElem?_eq_none (by omega), List.getElem?_eq_none (by omega)]
            · obtain ⟨vals, hLv, htl, hold⟩ := olds (by omega)
              obtain ⟨rest, ncap, hr1, hn1, hn2⟩ := grow (some ad) len cc _ vals hxe hLv htl hold (by omega) hroom
              have hfull : (elems.drop 0).take len = elems := by rw [List.drop_zero, hlen, List.take_length]
              rw [hfull] at hLv
              have hall := grown_cells (hLv.append hL) rest
              rw [← hsz'] at hall
              have hrd := drew_rep hr
              have hdx : Ext c ⟨n, l⟩ w c ⟨n, l⟩ w.drew := drew_ext
              have hmv := rep_move (ty := el) hrd hob (tyo := joinTy sk.ty el) (fun t ht => (joinTy_some ht).2) hall.1 hall.2.1 fun p j e v x' h1 h2 h3 => (hall.2.2 p j e v x' h1 h2 h3).mono hr hdx
              refine ⟨_, _, _, c.push ii w.heap.size, _, hp, .inl hr1, hmv, hdx.trans hr (ext_move hob _), ?_⟩
              have := sl_at (c := c.push ii w.heap.size) (off := 0) (n := n) (cc := ncap) (len := len + xs.length) (cap := none) hin (objL_putS l ii _ (.vec (g' + 1) szo (elems ++ xs) ⟨true, joinTy sk.ty el⟩) hob)
                (w' := w.drew.alloc (.cells ((vals ++ news).toArray ++ rest) el)) (C := (vals ++ news).toArray ++ rest) (ty := el) (fz := (0, 0)) (by simp only [Cx.push, if_pos]; exact heap_new w.drew _) hn1 (fun k hk => by cases hk) (by rw [hsz']; omega) (fun _ => by rw [hsz']; omega)
              rw [hsz'] at this ⊢
              simpa [Cx.push] using this
        · exact hp.elim
      · exact hp.elim
    · exact hp.elim
end
end Ab
