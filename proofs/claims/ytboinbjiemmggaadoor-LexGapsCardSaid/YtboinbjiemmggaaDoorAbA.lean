/- Appends, and texts made of bytes and bytes of texts. -/
import Derived.Test.YtboinbjiemmggaaDoorAbT
import Derived.Deep.AppendSrc
namespace Ab
set_option linter.unusedVariables false
set_option linter.unusedSimpArgs false
open Go
section
variable {P : Program} {c : Cx} {h : Heap} {w : World} {e : Env} {a : Act} {o : Oper} {k kp : SV → Heap → Prop}

theorem rangeK_eq (get : Nat → SV) : ∀ (n j : Nat) (K : List SV → Prop), rangeK get n j K = K ((List.range' j n).map get)
  | 0, _, _ => rfl
  | n+1, j, K => by unfold rangeK; rw [rangeK_eq get n]; rfl
theorem strK_eq : ∀ (s : List UInt8) (K : List SV → Prop), strK s K = K (s.map fun b => .int .u8 b.toNat)
  | [], _ => rfl
  | b :: r, K => by unfold strK; rw [strK_eq r]; rfl
theorem appL_eq : ∀ (l m : List SV) (K : List SV → Prop), appL l m K = K (l ++ m)
  | [], _, _ => rfl
  | v :: r, m, K => by unfold appL; rw [appL_eq r]; rfl

/-- A list of elements and the cells that they lie in. -/
def LW (c : Cx) (h : Heap) (w : World) (sz : Nat) (elems : List SV) (vals : List Value) : Prop :=
  vals.length = elems.length * sz ∧ (∀ v ∈ elems, v.cells.length = sz) ∧ ∀ (i j : Nat) (e v : SV) (x : Value), elems[i]? = some e → e.cells[j]? = some v → vals[i * sz + j]? = some x → VR c h w v x

theorem getq_lt {α : Type} {l : List α} {i : Nat} {v : α} (h : l[i]? = some v) : i < l.length := by
  rcases Nat.lt_or_ge i l.length with h' | h'
  · exact h'
  · rw [List.getElem?_eq_none h'] at h; cases h
theorem idx_lt {sz i j n : Nat} (hi : i < n) (hj : j < sz) : i * sz + j < n * sz := by
  have : (i + 1) * sz ≤ n * sz := Nat.mul_le_mul_right _ hi
  rw [Nat.succ_mul] at this
  omega

theorem LW.append {sz : Nat} {es fs : List SV} {vs us : List Value} (h1 : LW c h w sz es vs) (h2 : LW c h w sz fs us) : LW c h w sz (es ++ fs) (vs ++ us) := by
  refine ⟨by rw [List.length_append, List.length_append, h1.1, h2.1, Nat.add_mul], fun v hv => ?_, fun i j e v x he hv hx => ?_⟩
  · rcases List.mem_append.1 hv with hv | hv
    · exact h1.2.1 v hv
    · exact h2.2.1 v hv
  · have hj : j < sz := by
      have hlen : e.cells.length = sz := by
        rcases List.mem_append.1 (List.mem_of_getElem? he) with hm | hm
        · exact h1.2.1 e hm
        · exact h2.2.1 e hm
      rw [← hlen]; exact getq_lt hv
    rw [List.getElem?_append] at he hx
    by_cases hi : i < es.length
    · rw [if_pos hi] at he
      rw [if_pos (by rw [h1.1]; exact idx_lt hi hj)] at hx
      exact h1.2.2 i j e v x he hv hx
    · rw [if_neg hi] at he
      have hge : es.length * sz ≤ i * sz := Nat.mul_le_mul_right _ (Nat.le_of_not_lt hi)
      rw [if_neg (by rw [h1.1]; omega)] at hx
      refine h2.2.2 (i - es.length) j e v x he hv ?_
      rw [← hx, h1.1, Nat.sub_mul]
      congr 1
      omega

theorem LW.one {sz : Nat} {xs : List SV} {news : List Value} (hl : LW c h w sz xs news) (h1 : allOnes xs = true) : ∀ u ∈ news, u.oneCell' = true := by
  intro u hu
  obtain ⟨p, hp⟩ := List.mem_iff_getElem?.1 hu
  have hlt := getq_lt hp
  rw [hl.1] at hlt
  have hsz : 0 < sz := by
    rcases Nat.eq_zero_or_pos sz with h0 | h0
    · subst h0; omega
    · exact h0
  have hi : p / sz < xs.length := (Nat.div_lt_iff_lt_mul hsz).2 hlt
  have he : xs[p / sz]? = some xs[p / sz] := List.getElem?_eq_getElem hi
  have hmem := List.getElem_mem hi
  have hj : p % sz < xs[p / sz].cells.length := by rw [hl.2.1 _ hmem]; exact Nat.mod_lt _ hsz
  have hv : xs[p / sz].cells[p % sz]? = some xs[p / sz].cells[p % sz] := List.getElem?_eq_getElem hj
  have hpe : p / sz * sz + p % sz = p := by rw [Nat.mul_comm]; exact Nat.div_add_mod p sz
  refine (hl.2.2 (p / sz) (p % sz) _ _ u he hv (by rw [hpe]; exact hp)).one (allOne_mem ?_ _ (List.getElem_mem hj))
  have key : ∀ {l : List SV}, allOnes l = true → ∀ v ∈ l, allOne v.cells = true := by
    intro l
    induction l with
    | nil => intro _ v hv; cases hv
    | cons x r ih =>
      intro hall v hv
      simp only [allOnes, Bool.and_eq_true] at hall
      rcases List.mem_cons.1 hv with rfl | hv
      · exact hall.1
      · exact ih hall.2 v hv
  exact key h1 _ hmem

/-- A stretch of a named row. -/
theorem row_cells (hr : Rep c h w) {i g sz : Nat} {elems : List SV} {sk : Sk} (ho : h.obj i = some (.vec g sz elems sk)) {off len : Nat} (hle : off + len ≤ elems.length) :
    ∃ vals, LW c h w sz ((elems.drop off).take len) vals ∧ vals.length = len * sz ∧ ∀ j u, vals[j]? = some u → w.cell? ((⟨c.β i, off * sz, none⟩ : Addr).add j) = some u := by
  cases hr.obj i _ ho with
  | vec _ _ _ _ C ty fz hw hleC heq hty hc hf hcell =>
    have e1 : (off + len) * sz ≤ elems.length * sz := Nat.mul_le_mul_right _ hle
    rw [Nat.add_mul] at e1
    have hlen : ((elems.drop off).take len).length = len := by simp; omega
    have hvl : ((C.toList.drop (off * sz)).take (len * sz)).length = len * sz := by simp; omega
    refine ⟨(C.toList.drop (off * sz)).take (len * sz), ⟨by rw [hlen, hvl], fun v hv => hc v (List.mem_of_mem_drop (List.mem_of_mem_take hv)), fun p j e v x he hv hx => ?_⟩, hvl, fun j u hu => ?_⟩
    · have hp : p < len := by have := getq_lt he; omega
      rw [List.getElem?_take, if_pos hp, List.getElem?_drop] at he
      have hlx := getq_lt hx
      rw [List.getElem?_take, if_pos (by omega), List.getElem?_drop] at hx
      refine hcell (off + p) j e v x he hv ?_
      rw [Nat.add_mul, Nat.add_assoc, ← Array.getElem?_toList]
      exact hx
    · have hlu := getq_lt hu
      rw [List.getElem?_take, if_pos (by omega), List.getElem?_drop, Array.getElem?_toList] at hu
      rw [add_eq]
      simp only [World.cell?, hw]
      exact hu

theorem src_bytes {tx : TypeId} (hk : (∃ e', P.underlying tx = some (.slice e')) ∨ P.underlying tx = some .string) (s : ByteArray) : Src P 1 tx (.string s) s.size (byteCells s) w :=
  ⟨hk, fun _ => rfl, firstCells_string s w, firstCells_string s w.drew, by rw [byteCells_length, Nat.mul_one], fun u hu => by
    obtain ⟨_, _, rfl⟩ := List.mem_map.1 hu
    rfl⟩

/-- What is appended. -/
theorem elemsK_src (hr : Rep c h w) {x : SV} {y : Value} (hv : VR c h w x y) {sz : Nat} {K : List SV → Prop} (hp : elemsK h sz x K) {tx : TypeId} (hk : (∃ e', P.underlying tx = some (.slice e')) ∨ P.underlying tx = some .string) :
    ∃ xs news, K xs ∧ LW c h w sz xs news ∧ ((∀ u ∈ news, u.oneCell' = true) → Src P sz tx y xs.length news w) ∧ (∀ u, y = .string u → sz = 1 ∧ news = byteCells u) := by
  unfold elemsK at hp
  have hslice : ∀ (ad : Addr) (n cc : Nat) (xs : List SV) (news : List Value), y = .slice (some ad) n cc → xs.length = n → LW c h w sz xs news → (∀ j u, news[j]? = some u → w.cell? (ad.add j) = some u) →
      ((∀ u ∈ news, u.oneCell' = true) → Src P sz tx y xs.length news w) := by
    intro ad n cc xs news hy hn hl hcell h1
    subst hy; subst hn
    exact ⟨hk, fun _ => rfl, run_firstCells_some w sz _ ad _ cc news hl.1 hcell, run_firstCells_some w.drew sz _ ad _ cc news hl.1 (by simpa using hcell), hl.1, h1⟩
  have hnone : LW c h w sz [] [] := ⟨by simp, fun v hv => by simp at hv, fun i j e v x he => by simp at he⟩
  have hzero : ∀ (ad : Option Addr) (cc : Nat), y = .slice ad 0 cc → ((∀ u ∈ ([] : List Value), u.oneCell' = true) → Src P sz tx y ([] : List SV).length [] w) := by
    intro ad cc hy h1
    cases ad with
    | none =>
      subst hy
      exact ⟨hk, fun _ => rfl, run_firstCells_none w sz 0 0 cc, run_firstCells_none w.drew sz 0 0 cc, by simp, h1⟩
    | some ad => exact hslice ad 0 cc [] [] hy rfl hnone (fun j u hu => by simp at hu) h1
  split at hp
  · have hy := hv.nils_inv
    exact ⟨[], [], hp, hnone, hzero none 0 hy, fun u hu => by rw [hy] at hu; cases hu⟩
  · rename_i s
    replace hp := asr_iff.1 hp
    obtain ⟨hsz, hp⟩ := hp
    have hsz := Nat.eq_of_beq_eq_true hsz
    subst hsz
    rw [strK_eq] at hp
    have hy := hv.str_inv
    refine ⟨_, byteCells ⟨s.toArray⟩, hp, ⟨by simp [byteCells], fun v hv => ?_, fun i j e v x he hv hx => ?_⟩, fun h1 => ?_, fun u hu => ⟨rfl, by rw [hy] at hu; cases hu; rfl⟩⟩
    · obtain ⟨b, _, rfl⟩ := List.mem_map.1 hv; rfl
    · rw [List.getElem?_map] at he
      cases hb : s[i]? with
      | none => rw [hb] at he; cases he
      | some b =>
        rw [hb] at he
        simp only [Option.map_some, Option.some.injEq] at he
        subst he
        cases j with
        | zero =>
          simp only [SV.cells, List.getElem?_cons_zero, Option.some.injEq] at hv
          subst hv
          simp only [byteCells, Nat.mul_one, Nat.add_zero, List.getElem?_map, hb, Option.map_some, Option.some.injEq] at hx
          subst hx
          exact .int
        | succ j => simp [SV.cells] at hv
    · have hs := src_bytes (P := P) (w := w) hk ⟨s.toArray⟩
      rw [hy]
      have e1 : (s.map fun b => SV.int .u8 b.toNat).length = (⟨s.toArray⟩ : ByteArray).size := by simp [ByteArray.size]
      rw [e1]
      exact hs
  · rename_i sz' n get
    replace hp := asr_iff.1 hp
    obtain ⟨hsz, hp⟩ := hp
    have hsz := Nat.eq_of_beq_eq_true hsz
    subst hsz
    rw [rangeK_eq] at hp
    obtain ⟨ad, cap, hy, hnc, hor⟩ := hv.lst_inv
    rcases hor with rfl | ⟨b, off, C, ty, fz, rfl, hb, hw, hn, hc, hcell⟩
    · exact ⟨_, [], hp, hnone, hzero ad cap hy, fun u hu => by rw [hy] at hu; cases hu⟩
    · have hvl : ((C.toList.drop off).take (n * sz')).length = n * sz' := by simp; omega
      have hgl : ∀ (p : Nat) (e : SV), ((List.range' 0 n).map get)[p]? = some e → p < n ∧ e = get p := by
        intro p e he
        rw [List.getElem?_map] at he
        have hp' : p < n := by
          rcases Nat.lt_or_ge p n with h | h
          · exact h
          · rw [List.getElem?_eq_none (by simpa using h)] at he; cases he
        rw [List.getElem?_range' hp'] at he
        simp at he
        exact ⟨hp', he.symm⟩
      have hL : LW c h w sz' ((List.range' 0 n).map get) ((C.toList.drop off).take (n * sz')) := by
        refine ⟨by rw [hvl]; simp, fun v hv => ?_, fun p j e v x he hv hx => ?_⟩
        · obtain ⟨p, hp⟩ := List.mem_iff_getElem?.1 hv
          obtain ⟨h1, rfl⟩ := hgl p v hp
          exact hc p h1
        · obtain ⟨h1, rfl⟩ := hgl p e he
          have hlx := getq_lt hx
          rw [List.getElem?_take, if_pos (by omega), List.getElem?_drop, Array.getElem?_toList] at hx
          exact .pure (hcell p j v x h1 hv (by rw [Nat.add_assoc]; exact hx))
      refine ⟨_, _, hp, hL, hslice _ _ _ _ _ hy (by simp) hL fun j u hu => ?_, fun u hu => by rw [hy] at hu; cases hu⟩
      have hlu := getq_lt hu
      rw [List.getElem?_take, if_pos (by omega), List.getElem?_drop, Array.getElem?_toList] at hu
      rw [add_eq]
      simp only [World.cell?, hw]
      exact hu
  · rename_i i g sz' off len cap
    replace hp := asr_iff.1 hp
    obtain ⟨hsz, hp⟩ := hp
    have hsz := Nat.eq_of_beq_eq_true hsz
    subst hsz
    obtain ⟨n, l⟩ := h
    simp only [lookO_eq] at hp
    split at hp
    · rename_i ob hob
      split at hp
      · rename_i g' szo elems sk
        replace hp := asr_iff.1 hp
        obtain ⟨hg, hp⟩ := hp
        have hg := Nat.eq_of_beq_eq_true hg
        obtain ⟨hle, hp⟩ := dropN_iff.1 hp
        obtain ⟨hle2, hp⟩ := takeN_iff.1 hp
        simp only [List.length_drop] at hle2
        obtain ⟨hsz', ad, cc, hy, hlc, _, hor⟩ := hv.sl_inv (o := .vec g' szo elems sk) hob hg
        simp only [AObj.sz] at hsz'
        subst hsz'
        rcases hor with h0 | ⟨rfl, ty, m, hsh, hle'⟩
        · have hl0 : len = 0 := by omega
          subst hl0
          simp only [List.take_zero] at hp
          exact ⟨[], [], hp, hnone, hzero _ cc hy, fun u hu => by rw [hy] at hu; cases hu⟩
        · obtain ⟨vals, hL, hvl, hcl⟩ := row_cells hr (i := i) (g := g') (sz := szo) (elems := elems) (sk := sk) hob (off := off) (len := len) (by omega)
          exact ⟨_, vals, hp, hL, hslice _ _ _ _ _ hy (by simp; omega) hL hcl, fun u hu => by rw [hy] at hu; cases hu⟩
      · exact hp.elim
    · exact hp.elim
  · exact hp.elim
end
end Ab
