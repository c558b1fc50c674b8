/- Calls that leave nothing behind but what is told: memory dropped, names freed. -/
import Derived.Test.YtboinbjiemmggaaDoorAbL
namespace Ab
set_option linter.unusedVariables false
set_option linter.unusedSimpArgs false
open Go
@[reducible] def lstB (b : List UInt8) : SV := .lst 1 b.length fun i => byS (b.getD i 0)
theorem agree_by : ∀ (s : List UInt8) (k : Nat) (get : Nat → SV), (∀ j, j < s.length → get (k + j) = byS (s.getD j 0)) → agree (s.map byS) k get
  | [], _, _, _ => trivial
  | b :: r, k, get, h => by
    refine ⟨?_, .int _ _, agree_by r (k + 1) get fun j hj => ?_⟩
    · have := h 0 (by simp)
      simpa using this.symm
    · have := h (j + 1) (by simp; omega)
      rw [show k + 1 + j = k + (j + 1) by omega, this]
      simp [List.getD]
theorem hard_by {A : Heap} {i g : Nat} {cap : Option Nat} {s : List UInt8} {n : Nat} {sk : Sk} (ho : A.obj i = some (.vec g 1 (s.map byS) sk)) (hn : n = s.length) : Hard A (.sl i g 1 0 n cap) (lstB s) := by
  subst hn
  have := hard_all (cap := cap) (get := fun i => byS (s.getD i 0)) ho (agree_by s 0 _ fun j _ => by rw [Nat.zero_add])
  rw [List.length_map] at this
  exact this
theorem setO_skip {i j : Nat} {o o' : AObj} {l : List (Nat × AObj)} {k : List (Nat × AObj) → Prop} (h : Nat.beq j i = false) (hk : k ((j, o) :: (i, o') :: l)) {o2 : AObj} : setO ((j, o) :: (i, o2) :: l) i o' k := by
  unfold setO
  rw [h]
  show setO ((i, o2) :: l) i o' _
  unfold setO
  rw [Nat.beq_refl]
  exact hk
theorem nbeq {a b : Nat} (h : a ≠ b) : Nat.beq a b = false := by
  cases hh : Nat.beq a b
  · rfl
  · exact absurd (Nat.eq_of_beq_eq_true hh) h
theorem objL_hd {i : Nat} {o : AObj} {l : List (Nat × AObj)} : objL ((i, o) :: l) i = some o := by simp [objL]
theorem objL_nx {i j : Nat} {o : AObj} {l : List (Nat × AObj)} (h : j ≠ i) : objL ((j, o) :: l) i = objL l i := by simp [objL, h]
theorem hsub_skip {n i j : Nat} {o o' : AObj} {l : List (Nat × AObj)} (h : j ≠ i) : HSub ⟨n, [(i, o')]⟩ ⟨n, (j, o) :: (i, o') :: l⟩ := by
  refine ⟨rfl, fun a b hb => ?_⟩
  have hb : objL [(i, o')] a = some b := hb
  show objL ((j, o) :: (i, o') :: l) a = some b
  by_cases ha : i = a
  · subst ha
    rw [objL_hd] at hb
    rw [objL_nx h, objL_hd, hb]
  · rw [objL_nx ha] at hb
    cases hb
theorem hsub_hd {n i : Nat} {o : AObj} {l : List (Nat × AObj)} : HSub ⟨n, [(i, o)]⟩ ⟨n, (i, o) :: l⟩ := by
  refine ⟨rfl, fun a b hb => ?_⟩
  have hb : objL [(i, o)] a = some b := hb
  show objL ((i, o) :: l) a = some b
  by_cases ha : i = a
  · subst ha
    rw [objL_hd] at hb ⊢
    exact hb
  · rw [objL_nx ha] at hb
    cases hb
theorem fdiv7 {y : Nat} : (y : Int).fdiv (2 ^ min (Int.toNat 7) IntKind.u64.bits) = ((y / 128 : Nat) : Int) := by
  have e : min (Int.toNat 7) IntKind.u64.bits = 7 := by decide
  rw [e, Int.fdiv_eq_ediv_of_nonneg _ (by decide)]
  norm_cast
/-- All names and all that is spoken of lies below a number. -/
def ltH (l : List (Nat × AObj)) (n : Nat) : Prop := ∀ i o, objL l i = some o → i < n ∧ objLt n o
def LitEnd : AEnd → Prop
  | .ret v => LitV v
  | .pan v => LitV v
theorem rep_cut {c : Cx} {w : World} {h h' : Heap} (hr : Rep c h w) (hl : ∀ i o, h'.obj i = some o → h.obj i = some o ∧ i < h'.nxt ∧ objLt h'.nxt o) : Rep c h' w := by
  have hsub : ∀ i o, h'.obj i = some o → h.obj i = some o := fun i o ho => (hl i o ho).1
  refine ⟨fun i o ho => (hl i o ho).2.1, fun i o ho => ?_, fun i j o p ho hp' heq => hr.inj i j o p (hsub i o ho) (hsub j p hp') heq, fun i o ho => hr.apart i o (hsub i o ho), hr.im, hr.glob⟩
  have hor := hr.obj i o (hsub i o ho)
  have holt := (hl i o ho).2.2
  cases hor with
  | vec g sz elems slack C ty fz hw hle heq hty hc hf hcell =>
    refine .vec g sz elems slack C ty fz hw hle heq hty hc hf fun i j e v x h1 h2 h3 => ?_
    have hv := hcell i j e v x h1 h2 h3
    have hlte := holt e (List.mem_of_getElem? h1)
    by_cases hagg : ∃ l, e = .agg l
    · obtain ⟨l, rfl⟩ := hagg
      exact hv.cut hsub 7 (List.all_eq_true.1 hlte v (List.mem_of_getElem? h2))
    · have h1 : e.cells = [e] := by cases e <;> first | rfl | exact absurd ⟨_, rfl⟩ hagg
      rw [h1] at h2
      cases j with
      | zero => simp at h2; subst h2; exact hv.cut hsub 8 hlte
      | succ j => simp at h2
  | iter s pos hw => exact .iter s pos hw
  | map es cl hw hs => exact .map es cl hw hs
  | miter m since seen stepped r hw hm => exact .miter m since seen stepped r hw (hm.cut hsub 8 holt)
  | fro g ty xs C fz hw hle hc => exact .fro g ty xs C fz hw hle hc
theorem ACall.cut {P : Program} {f : FuncId} {args : List SV} {n N : Nat} {l : List (Nat × AObj)} {R : AEnd → Heap → Prop} (hn : n ≤ N)
    (hc : ACall P f args ⟨n, l⟩ fun r h' => ∃ l', (∀ i o, objL l' i = some o → h'.obj i = some o ∧ i < N ∧ objLt N o) ∧ LitEnd r ∧ R r ⟨N, l'⟩) : ACall P f args ⟨n, l⟩ R :=
  ⟨fun c w xs hr hs hv => (hc.calls c w xs hr hs hv).mono fun e w' ⟨c', h', r, ⟨l', hl, hlit, hR⟩, hr', hx', he⟩ => by
    refine ⟨c', ⟨N, l'⟩, r, hR, rep_cut hr' hl, ⟨hx'.os, hx'.tape, hx'.output, hx'.size, hx'.frame, hx'.shape, hx'.im, hx'.im', hn, fun i o' hi ho' => hx'.old i o' hi (hl i o' ho').1, fun i o' ho' => hx'.new i o' (hl i o' ho').1⟩, ?_⟩
    cases r with
    | ret v => obtain ⟨x, he, hx⟩ := he; exact ⟨x, he, .pure (hlit.vp hx)⟩
    | pan v => obtain ⟨x, he, hx⟩ := he; exact ⟨x, he, .pure (hlit.vp hx)⟩⟩
theorem lookO_run {l : List (Nat × AObj)} {i : Nat} {o : AObj} {k : AObj → Prop} {d : Prop} (h : objL l i = some o) (hk : k o) : lookO l i k d := by
  rw [lookO_eq, h]; exact hk
theorem setO_run {l : List (Nat × AObj)} {i : Nat} {o : AObj} {k : List (Nat × AObj) → Prop} (hk : k (putO l i o)) : setO l i o k := by
  rw [setO_eq]; exact hk
theorem dropO_run {k : List (Nat × AObj) → Prop} {l : List (Nat × AObj)} {i : Nat} (hk : ∀ l', k l') : dropO l i k := by
  induction l generalizing k with
  | nil => exact hk []
  | cons x r ih =>
    obtain ⟨s, o⟩ := x
    unfold dropO
    rcases beq_cases s i with ⟨h, _⟩ | ⟨h, _⟩ <;> rw [h]
    · exact ih hk
    · exact ih fun l' => hk _
theorem putO_putO : ∀ (l : List (Nat × AObj)) (i : Nat) (a b : AObj), putO (putO l i a) i b = putO l i b
  | [], i, a, b => rfl
  | (s, o) :: r, i, a, b => by
    by_cases h : s = i
    · simp only [putO, if_pos h]
    · simp only [putO, if_neg h, putO_putO r i a b]
theorem putO_comm : ∀ (l : List (Nat × AObj)) {i j : Nat} (a b : AObj), i ≠ j → putO (putO l i a) j b = putO (putO l j b) i a
  | [], i, j, a, b, _ => rfl
  | (s, o) :: r, i, j, a, b, h => by
    by_cases h1 : s = i
    · have h2 : s ≠ j := by omega
      simp only [putO, if_pos h1, if_neg h2]
    · by_cases h2 : s = j
      · simp only [putO, if_pos h2, if_neg h1]
      · simp only [putO, if_neg h1, if_neg h2, putO_comm r a b h]
theorem objL_put_same {l : List (Nat × AObj)} {i : Nat} {o o' : AObj} (h : objL l i = some o) : objL (putO l i o') i = some o' := objL_putS l i o o' h
theorem objL_put_ne {l : List (Nat × AObj)} {i j : Nat} {o' : AObj} (h : j ≠ i) : objL (putO l i o') j = objL l j := by rw [objL_put, if_neg h]
theorem nbeq_self (n : Nat) : Nat.beq n n = true := Nat.beq_refl n
theorem joinTy_self (t : TypeId) : joinTy (some t) t = some t := by show (bif Nat.beq t t then some t else none) = some t; rw [nbeq_self]; rfl
theorem append_one {ty : TypeId} {m g i : Nat} {o : List UInt8} {c : SV} {sk : Sk} {l : List (Nat × AObj)} {k : SV → Heap → Prop} (ho : objL l i = some (.vec g 1 (o.map byS) ⟨true, some ty⟩)) (him : i < m) (hc : allOne c.cells = true) (hlen : o.length + 1 ≤ 140737488355328)
    (hk : k (.sl i (g + 1) 1 0 (o.length + 1) none) ⟨m + 1, (m, .vec 0 1 [c] sk) :: putO l i (.vec (g + 1) 1 (o.map byS ++ [c]) ⟨true, some ty⟩)⟩) :
    appendK ty 1 1 ⟨m + 1, (m, .vec 0 1 [c] sk) :: l⟩ (.sl i g 1 0 o.length none) (.sl m 0 1 0 1 (some 1)) k := by
  refine append_mv (elems_all objL_hd rfl) (by simp) (by simp [allOnes, hc]) (by rw [objL_nx (by omega)]; exact ho) (by simp) (by simp; omega) (by simp; omega) ?_
  rw [setO_eq]
  unfold putO
  rw [if_neg (by omega), joinTy_self]
  exact hk
theorem append_str {ty : TypeId} {m g i : Nat} {o s : List UInt8} {l : List (Nat × AObj)} {k : SV → Heap → Prop} (ho : objL l i = some (.vec g 1 (o.map byS) ⟨true, some ty⟩)) (h0 : 0 < s.length) (hlen : o.length + s.length ≤ 140737488355328)
    (hk : k (.sl i (g + 1) 1 0 (o.length + s.length) none) ⟨m, putO l i (.vec (g + 1) 1 (o.map byS ++ s.map byS) ⟨true, some ty⟩)⟩) :
    appendK ty 1 1 ⟨m, l⟩ (.sl i g 1 0 o.length none) (.str s) k := by
  refine append_mv (elems_str s) (by simpa using h0) (allOnes_by s) ho (by simp) (by simp; omega) (by simp; omega) ?_
  rw [setO_eq, List.length_map, joinTy_self]
  exact hk
/-- Behind a slice whose room is told, and too small: a new row. -/
theorem append_cap {ty : TypeId} {sz bytes m : Nat} {l : List (Nat × AObj)} {x : SV} {xs : List SV} {k : SV → Heap → Prop} {i g off len cp szo : Nat} {elems : List SV} {sk : Sk} (hx : Elems ⟨m, l⟩ sz x xs) (h0 : 0 < xs.length) (h1 : allOnes xs = true)
    (ho : objL l i = some (.vec g szo elems sk)) (hle : off + len ≤ elems.length) (hcp : cp < len + xs.length) (hl : (len + xs.length) * bytes ≤ 140737488355328) (hl' : len + xs.length ≤ 9223372036854775807)
    (hk : k (.sl m 0 sz 0 (len + xs.length) none) ⟨m + 1, (m, .vec 0 sz ((elems.drop off).take len ++ xs) ⟨true, some ty⟩) :: l⟩) : appendK ty sz bytes ⟨m, l⟩ (.sl i g sz off len (some cp)) x k := by
  unfold appendK
  refine hx _ ?_
  cases xs with
  | nil => simp at h0
  | cons x0 xr =>
    dsimp only
    rw [asr_iff]
    refine ⟨h1, ?_⟩
    show asr (Nat.beq sz sz) _
    rw [asr_iff]
    refine ⟨Nat.beq_refl _, ?_⟩
    rw [lookO_eq, ho]
    dsimp only
    rw [asr_iff]
    refine ⟨Nat.beq_refl _, ?_⟩
    have hb : Nat.ble (len + (x0 :: xr).length) cp = false := by
      cases hh : Nat.ble (len + (x0 :: xr).length) cp
      · rfl
      · have := Nat.le_of_ble_eq_true hh; omega
    rw [hb]
    show asr _ _
    rw [asr_iff]
    refine ⟨by rw [decide_eq_true hl, decide_eq_true hl']; rfl, ?_⟩
    rw [dropN_iff]
    refine ⟨by omega, ?_⟩
    rw [takeN_iff]
    refine ⟨by rw [List.length_drop]; omega, ?_⟩
    rw [appL_eq]
    exact hk
theorem append_lst {ty : TypeId} {m g i : Nat} {o s : List UInt8} {l : List (Nat × AObj)} {k : SV → Heap → Prop} (ho : objL l i = some (.vec g 1 (o.map byS) ⟨true, some ty⟩)) (h0 : 0 < s.length) (hlen : o.length + s.length ≤ 140737488355328)
    (hk : k (.sl i (g + 1) 1 0 (o.length + s.length) none) ⟨m, putO l i (.vec (g + 1) 1 (o.map byS ++ s.map byS) ⟨true, some ty⟩)⟩) :
    appendK ty 1 1 ⟨m, l⟩ (.sl i g 1 0 o.length none) (lstB s) k := by
  refine append_mv elems_bytes (by simpa using h0) (allOnes_by s) ho (by simp) (by simp; omega) (by simp; omega) ?_
  rw [setO_eq, List.length_map, joinTy_self]
  exact hk
/-! A builder in memory: its head; its bytes. -/
@[reducible] def bldO (tb bi j g n : Nat) : AObj := .vec 0 2 [.agg [.ref bi 0 0 0, .sl j g 1 0 n none]] ⟨false, some tb⟩
@[reducible] def bufO (ty g : Nat) (o : List UInt8) : AObj := .vec g 1 (o.map byS) ⟨true, some ty⟩
def bset (tb ty : Nat) (l : List (Nat × AObj)) (bi j g : Nat) (o : List UInt8) : List (Nat × AObj) := putO (putO l j (bufO ty g o)) bi (bldO tb bi j g o.length)
theorem bset_bld {tb ty : Nat} {l : List (Nat × AObj)} {bi j g : Nat} {o : List UInt8} {ob : AObj} (hb : objL l bi = some ob) (hne : bi ≠ j) : objL (bset tb ty l bi j g o) bi = some (bldO tb bi j g o.length) :=
  objL_put_same (o := ob) (by rw [objL_put_ne hne]; exact hb)
theorem bset_buf {tb ty : Nat} {l : List (Nat × AObj)} {bi j g : Nat} {o : List UInt8} {oj : AObj} (hj : objL l j = some oj) (hne : bi ≠ j) : objL (bset tb ty l bi j g o) j = some (bufO ty g o) := by
  unfold bset
  rw [objL_put_ne (fun h => hne h.symm)]
  exact objL_put_same hj
theorem bset_ne {tb ty : Nat} {l : List (Nat × AObj)} {bi j g i : Nat} {o : List UInt8} (h1 : i ≠ bi) (h2 : i ≠ j) : objL (bset tb ty l bi j g o) i = objL l i := by
  unfold bset
  rw [objL_put_ne h1, objL_put_ne h2]
theorem objLt_by {n : Nat} {s : List UInt8} {g sz : Nat} {sk : Sk} : objLt n (.vec g sz (s.map byS) sk) := by
  intro v hv
  obtain ⟨b, _, rfl⟩ := List.mem_map.1 hv
  rfl
theorem putO_self : ∀ {l : List (Nat × AObj)} {i : Nat} {o : AObj}, objL l i = some o → putO l i o = l
  | [], _, _, h => rfl
  | (s, q) :: r, i, o, h => by
    unfold putO
    unfold objL at h
    by_cases hs : s = i
    · rw [if_pos hs] at h ⊢; cases h; rfl
    · rw [if_neg hs] at h ⊢; rw [putO_self h]
theorem bset_bset {tb ty : Nat} {l : List (Nat × AObj)} {bi j g g' : Nat} {o o' : List UInt8} (hne : bi ≠ j) : bset tb ty (bset tb ty l bi j g o) bi j g' o' = bset tb ty l bi j g' o' := by
  unfold bset
  rw [putO_comm _ _ _ hne, putO_putO, putO_putO]
theorem bset_self {tb ty : Nat} {l : List (Nat × AObj)} {bi j g : Nat} {o : List UInt8} (hb : objL l bi = some (bldO tb bi j g o.length)) (hj : objL l j = some (bufO ty g o)) : bset tb ty l bi j g o = l := by
  unfold bset
  rw [putO_self hj, putO_self hb]
theorem ltH_nil {n : Nat} : ltH [] n := fun i o h => by cases h
theorem ltH_cons {n i : Nat} {o : AObj} {l : List (Nat × AObj)} (hi : i < n) (ho : objLt n o) (hl : ltH l n) : ltH ((i, o) :: l) n := fun j ob h => by
  unfold objL at h
  split at h
  · cases h; rename_i h; subst h; exact ⟨hi, ho⟩
  · exact hl j ob h
theorem objLt_all {n g sz : Nat} {elems : List SV} {sk : Sk} (h : elems.all (SV.lt 8 n) = true) : objLt n (.vec g sz elems sk) := fun v hv => List.all_eq_true.1 h v hv
theorem sub_skip {m i : Nat} {t ob : AObj} {l : List (Nat × AObj)} (hi : i < m) (h : objL l i = some ob) : objL ((m, t) :: l) i = some ob := by rw [objL_nx (by omega)]; exact h
theorem ltH_bset {tb ty : Nat} {l : List (Nat × AObj)} {m bi j g : Nat} {o : List UInt8} (hl : ltH l m) (hbm : bi < m) (hjm : j < m) (hne : bi ≠ j) : ltH (bset tb ty l bi j g o) m := by
  intro i ob h
  by_cases h1 : i = bi
  · subst h1
    cases hq : objL l i with
    | none =>
      unfold bset at h
      rw [objL_put, if_pos rfl, objL_put_ne hne, hq] at h
      cases h
    | some q =>
      rw [bset_bld hq hne] at h
      cases h
      refine ⟨hbm, fun v hv => ?_⟩
      simp only [List.mem_singleton] at hv
      subst hv
      simp [SV.lt, Nat.blt, hbm, hjm]
      omega
  · by_cases h2 : i = j
    · subst h2
      cases hq : objL l i with
      | none =>
        unfold bset at h
        rw [objL_put_ne h1, objL_put, if_pos rfl, hq] at h
        cases h
      | some q =>
        rw [bset_buf hq hne] at h
        cases h
        exact ⟨hjm, objLt_by⟩
    · rw [bset_ne h1 h2] at h
      exact hl i ob h
end Ab
