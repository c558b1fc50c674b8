/- Rows of elements that are not written out: appends, texts. -/
import Derived.Test.YtboinbjiemmggaaDoorAbK
namespace Ab
set_option linter.unusedVariables false
set_option linter.unusedSimpArgs false
open Go

/-- What a slice, or a text, holds. -/
def Elems (h : Heap) (sz : Nat) (x : SV) (xs : List SV) : Prop := ∀ k : List SV → Prop, k xs → elemsK h sz x k
@[reducible] def byS (b : UInt8) : SV := .int .u8 b.toNat
theorem elems_run {h : Heap} {sz : Nat} {x : SV} {xs : List SV} {k : List SV → Prop} (hx : Elems h sz x xs) (hk : k xs) : elemsK h sz x k := hx k hk
theorem elems_str {h : Heap} (s : List UInt8) : Elems h 1 (.str s) (s.map byS) := fun k hk => by
  show asr (Nat.beq 1 1) (strK s k)
  rw [asr_iff, strK_eq]
  exact ⟨rfl, hk⟩
theorem elems_lst {h : Heap} {sz n : Nat} {get : Nat → SV} : Elems h sz (.lst sz n get) ((List.range n).map get) := fun k hk => by
  show asr (Nat.beq sz sz) (rangeK get n 0 k)
  rw [asr_iff, rangeK_eq, Nat.beq_refl]
  exact ⟨rfl, by rw [← List.range_eq_range']; exact hk⟩
theorem elems_bytes {h : Heap} {s : List UInt8} : Elems h 1 (.lst 1 s.length fun i => byS (s.getD i 0)) (s.map byS) := fun k hk => by
  refine elems_lst k ?_
  have e : (List.range s.length).map (fun i => byS (s.getD i 0)) = s.map byS := by
    apply List.ext_getElem
    · simp
    · intro i h1 h2
      simp only [List.length_map] at h2
      simp [h2]
  rw [e]; exact hk
theorem elems_sl {m : Nat} {l : List (Nat × AObj)} {i g sz off len szo : Nat} {cap : Option Nat} {elems : List SV} {sk : Sk} (ho : objL l i = some (.vec g szo elems sk)) (hle : off + len ≤ elems.length) :
    Elems ⟨m, l⟩ sz (.sl i g sz off len cap) ((elems.drop off).take len) := fun k hk => by
  show asr (Nat.beq sz sz) (lookO l i (fun o => match o with
      | .vec g' _ elems _ => asr (Nat.beq g' g) (dropN elems off fun l => takeN l len k)
      | _ => False) False)
  rw [asr_iff, lookO_eq, ho]
  refine ⟨Nat.beq_refl _, ?_⟩
  dsimp only
  rw [asr_iff, dropN_iff, takeN_iff]
  exact ⟨Nat.beq_refl _, by omega, by rw [List.length_drop]; omega, hk⟩
theorem elems_all {m : Nat} {l : List (Nat × AObj)} {i g sz n szo : Nat} {cap : Option Nat} {elems : List SV} {sk : Sk} (ho : objL l i = some (.vec g szo elems sk)) (hn : n = elems.length) :
    Elems ⟨m, l⟩ sz (.sl i g sz 0 n cap) elems := fun k hk => by
  refine elems_sl ho (by omega) k ?_
  rw [List.drop_zero, List.take_of_length_le (by omega)]; exact hk
theorem elems_whole {m : Nat} {l : List (Nat × AObj)} {i g sz off len szo : Nat} {cap : Option Nat} {elems xs : List SV} {sk : Sk} (ho : objL l i = some (.vec g szo elems sk)) (hle : off + len ≤ elems.length) (hxs : (elems.drop off).take len = xs) :
    Elems ⟨m, l⟩ sz (.sl i g sz off len cap) xs := hxs ▸ elems_sl ho hle

theorem allOnes_by : ∀ s : List UInt8, allOnes (s.map byS) = true
  | [] => rfl
  | b :: r => by
    show (allOne (byS b).cells && allOnes (r.map byS)) = true
    rw [allOnes_by r]; rfl

theorem append_none {ty : TypeId} {sz bytes : Nat} {h : Heap} {x : SV} {k : SV → Heap → Prop} (hx : Elems h sz x []) (hk : k .nils h) : appendK ty sz bytes h .nils x k := by
  unfold appendK
  exact hx _ hk
theorem append_noneS {ty : TypeId} {sz bytes : Nat} {m : Nat} {l : List (Nat × AObj)} {x : SV} {k : SV → Heap → Prop} {i g sz' off len szo : Nat} {cap : Option Nat} {elems : List SV} {sk : Sk} (hx : Elems ⟨m, l⟩ sz x []) (ho : objL l i = some (.vec g szo elems sk))
    (hk : k (.sl i g sz' off len cap) ⟨m, l⟩) : appendK ty sz bytes ⟨m, l⟩ (.sl i g sz' off len cap) x k := by
  unfold appendK
  refine hx _ ?_
  show liveK ⟨m, l⟩ i g _
  unfold liveK
  dsimp only
  rw [lookO_eq, ho]
  dsimp only
  rw [asr_iff]
  exact ⟨Nat.beq_refl _, hk⟩
theorem append_new {ty : TypeId} {sz bytes m : Nat} {l : List (Nat × AObj)} {x : SV} {xs : List SV} {k : SV → Heap → Prop} (hx : Elems ⟨m, l⟩ sz x xs) (h0 : 0 < xs.length) (h1 : allOnes xs = true)
    (hl : xs.length * bytes ≤ 140737488355328) (hl' : xs.length ≤ 9223372036854775807) (hk : k (.sl m 0 sz 0 xs.length none) ⟨m + 1, (m, .vec 0 sz xs ⟨true, some ty⟩) :: l⟩) : appendK ty sz bytes ⟨m, l⟩ .nils x k := by
  unfold appendK
  refine hx _ ?_
  cases xs with
  | nil => simp at h0
  | cons x0 xr =>
    dsimp only
    rw [asr_iff, asr_iff]
    exact ⟨h1, by rw [decide_eq_true hl, decide_eq_true hl']; rfl, hk⟩
/-- Behind a row that the run made: it moves, or has room; its elder names mean nothing any more. -/
theorem append_mv {ty : TypeId} {sz bytes m : Nat} {l : List (Nat × AObj)} {x : SV} {xs : List SV} {k : SV → Heap → Prop} {i g len szo : Nat} {elems : List SV} {sk : Sk} (hx : Elems ⟨m, l⟩ sz x xs) (h0 : 0 < xs.length) (h1 : allOnes xs = true)
    (ho : objL l i = some (.vec g szo elems sk)) (hn : len = elems.length) (hl : (len + xs.length) * bytes ≤ 140737488355328) (hl' : len + xs.length ≤ 9223372036854775807)
    (hk : setO l i (.vec (g + 1) szo (elems ++ xs) ⟨true, joinTy sk.ty ty⟩) fun l' => k (.sl i (g + 1) sz 0 (len + xs.length) none) ⟨m, l'⟩) : appendK ty sz bytes ⟨m, l⟩ (.sl i g sz 0 len none) x k := by
  unfold appendK
  refine hx _ ?_
  cases xs with
  | nil => simp at h0
  | cons x0 xr =>
    dsimp only
    rw [asr_iff]
    refine ⟨h1, ?_⟩
    show asr (Nat.beq sz sz) _
    rw [asr_iff]
    refine ⟨Nat.beq_refl _, ?_⟩
    rw [lookO_eq, ho]
    dsimp only
    rw [asr_iff]
    refine ⟨Nat.beq_refl _, ?_⟩
    have hno : (Nat.blt 0 sz && Nat.ble (0 + len + (x0 :: xr).length) elems.length) = false := by
      cases hb : Nat.ble (0 + len + (x0 :: xr).length) elems.length with
      | false => rw [Bool.and_false]
      | true =>
        have := Nat.le_of_ble_eq_true hb
        rw [hn] at this
        simp only [List.length_cons] at this
        omega
    rw [hno]
    show asr _ _
    rw [asr_iff]
    refine ⟨?_, ?_⟩
    · rw [decide_eq_true hl, decide_eq_true hl', hn]
      simp only [Bool.and_true, Nat.beq_refl]
    · rw [appL_eq]
      exact hk
/-! The same where everything is written out: asked of the kernel. -/
theorem append_mvC {ty : TypeId} {sz bytes m : Nat} {l : List (Nat × AObj)} {x : SV} {k : SV → Heap → Prop} {i g len : Nat} {xs : List SV} {szo : Nat} {elems : List SV} {sk : Sk} (hx : ∀ k, elemsK ⟨m, l⟩ sz x k = k xs) (ho : objL l i = some (.vec g szo elems sk))
    (hb : (Nat.blt 0 xs.length && (allOnes xs && (Nat.beq len elems.length && (Nat.ble ((len + xs.length) * bytes) 140737488355328 && Nat.ble (len + xs.length) 9223372036854775807)))) = true)
    (hk : setO l i (.vec (g + 1) szo (elems ++ xs) ⟨true, joinTy sk.ty ty⟩) fun l' => k (.sl i (g + 1) sz 0 (len + xs.length) none) ⟨m, l'⟩) : appendK ty sz bytes ⟨m, l⟩ (.sl i g sz 0 len none) x k := by
  simp only [Bool.and_eq_true, Nat.blt_eq, Nat.beq_eq, Nat.ble_eq] at hb
  exact append_mv (fun k hk => by rw [hx]; exact hk) hb.1 hb.2.1 ho hb.2.2.1 hb.2.2.2.1 hb.2.2.2.2 hk
theorem append_newC {ty : TypeId} {sz bytes m : Nat} {l : List (Nat × AObj)} {x : SV} {k : SV → Heap → Prop} {xs : List SV} (hx : ∀ k, elemsK ⟨m, l⟩ sz x k = k xs)
    (hb : (Nat.blt 0 xs.length && (allOnes xs && (Nat.ble (xs.length * bytes) 140737488355328 && Nat.ble xs.length 9223372036854775807))) = true)
    (hk : k (.sl m 0 sz 0 xs.length none) ⟨m + 1, (m, .vec 0 sz xs ⟨true, some ty⟩) :: l⟩) : appendK ty sz bytes ⟨m, l⟩ .nils x k := by
  simp only [Bool.and_eq_true, Nat.blt_eq, Nat.ble_eq] at hb
  exact append_new (fun k hk => by rw [hx]; exact hk) hb.1 hb.2.1 hb.2.2.1 hb.2.2.2 hk
theorem strK_run {s : List UInt8} {k : List SV → Prop} (hk : k (s.map byS)) : strK s k := by rw [strK_eq]; exact hk
theorem bytesK_run {s : List UInt8} {k : List UInt8 → Prop} (hk : k s) : bytesK (s.map byS) k := by
  have e : s.map byS = (s.map fun b => (b.toNat : Int)).map (SV.int .u8) := by rw [List.map_map]; rfl
  rw [e]
  refine bytesK_of ?_
  have e2 : (s.map fun b => (b.toNat : Int)).map (fun n => UInt8.ofNat n.toNat) = s := by
    rw [List.map_map]
    conv => rhs; rw [← List.map_id s]
    apply List.map_congr_left
    intro b _
    simp
  rw [e2]; exact hk
theorem takeN_run {l : List SV} {n : Nat} {k : List SV → Prop} (h : n ≤ l.length) (hk : k (l.take n)) : takeN l n k := takeN_iff.2 ⟨h, hk⟩
theorem takeN_all {l : List SV} {n : Nat} {k : List SV → Prop} (h : n = l.length) (hk : k l) : takeN l n k := takeN_iff.2 ⟨by omega, by rw [List.take_of_length_le (by omega)]; exact hk⟩
theorem dropN_run {l : List SV} {n : Nat} {k : List SV → Prop} (h : n ≤ l.length) (hk : k (l.drop n)) : dropN l n k := dropN_iff.2 ⟨h, hk⟩
end Ab
