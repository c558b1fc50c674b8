/- More operations that touch no memory: indexes, slices, lengths, structs put together. -/
import Derived.Test.YtboinbjiemmggaaDoorAbP
namespace Ab
set_option linter.unusedVariables false
set_option linter.unusedSimpArgs false
open Go
section
variable {P : Program} {Γ : CallR} {c : Cx} {h : Heap} {w : World} {e : Env} {a : Act} {o : Oper} {k kp : SV → Heap → Prop}

theorem oevK_inv (he : ER c h w e a.tmps) {d : Int} {x : Option Operand} {K : Int → Prop} (hp : oevK e d (x.map cOpd) K) :
    (x = none ∧ K d) ∨ ∃ y kk n, x = some y ∧ a.eval y = .int kk n ∧ K n := by
  cases x with
  | none => exact .inl ⟨rfl, hp⟩
  | some y =>
    simp only [Option.map_some, oevK, evK_eq] at hp
    have hy := he.ev y
    split at hp
    · rename_i kk n h1
      rw [h1] at hy
      exact .inr ⟨y, kk, n, rfl, hy.int_inv, hp⟩
    · exact hp.elim

theorem bound_run {kk : IntKind} {i : Int} {y : Nat} (code : BoundsCode) (h0 : 0 ≤ i) (h1 : i ≤ y) : (Instr.sliceBound (.int kk i) y code).run P w = .ok i.toNat w := by
  simp [Instr.sliceBound, asIntOf, h0, h1]

theorem bounds_run (he : ER c h w e a.tmps) (b : Bool) (len cap : Nat) {lo hi : Option Operand} {K : Int → Int → Prop} (hp : oevK e 0 (lo.map cOpd) fun l => oevK e len (hi.map cOpd) fun hh => K l hh) :
    ∃ l hh, K l hh ∧ (0 ≤ l → l ≤ hh → hh ≤ cap → (Instr.sliceBounds b len cap (lo.map a.eval) (hi.map a.eval) none).run P w = .ok (l.toNat, hh.toNat, cap) w) := by
  rcases oevK_inv he hp with ⟨rfl, hp1⟩ | ⟨y, kk, n, rfl, hy, hp1⟩
  · rcases oevK_inv he hp1 with ⟨rfl, hp2⟩ | ⟨y, kk, n, rfl, hy, hp2⟩
    · exact ⟨_, _, hp2, fun h0 h1 h2 => by simp [Instr.sliceBounds]⟩
    · exact ⟨_, _, hp2, fun h0 h1 h2 => by simp [Instr.sliceBounds, hy, bound_run _ h1 h2]⟩
  · rcases oevK_inv he hp1 with ⟨rfl, hp2⟩ | ⟨y2, kk2, n2, rfl, hy2, hp2⟩
    · exact ⟨_, _, hp2, fun h0 h1 h2 => by simp [Instr.sliceBounds, hy, bound_run _ h0 h1]⟩
    · refine ⟨_, _, hp2, fun h0 h1 h2 => ?_⟩
      simp [Instr.sliceBounds, hy, hy2, bound_run _ (Int.le_trans h0 h1) h2]
      exact (congrArg (fun r => Result.andThen r _) (bound_run (P := P) (w := w) .sliceB h0 (by omega))).trans (by simp)

theorem sees_sliceStr (he : ER c h w e a.tmps) {t : TypeId} {x : Operand} {lo hi : Option Operand} (ho : o.op = .slice t x lo hi none) (hu : P.underlying t = some .string)
    (hp : aop P Γ (.sliceStr (cOpd x) (lo.map cOpd) (hi.map cOpd)) e h k kp) : Sees P c h w a o k := by
  simp only [aop, evK_eq] at hp
  have hx := he.ev x
  split at hp
  · rename_i s h1
    rw [h1] at hx
    obtain ⟨l, hh, hp, hrun⟩ := bounds_run (P := P) (w := w) he false s.length s.length hp
    replace hp := asr_iff.1 hp
    obtain ⟨hb, hp⟩ := hp
    simp only [Bool.and_eq_true, decide_eq_true_eq] at hb
    obtain ⟨⟨h0, h1⟩, h2⟩ := hb
    refine .of _ _ hp ?_ .str
    have hsz : (ByteArray.mk s.toArray).size = s.length := by simp [ByteArray.size]
    have hex : (ByteArray.mk s.toArray).extract l.toNat hh.toNat = ByteArray.mk ((s.drop l.toNat).take (hh.toNat - l.toNat)).toArray := by
      apply ByteArray.ext
      apply Array.ext'
      simp [ByteArray.data_extract, List.extract_eq_take_drop]
    simp [execOp, ho, hx.str_inv, Instr.sliceAt, run_underlying hu, Instr.slice, hsz, hrun h0 h1 h2, hex]
  · exact hp.elim

theorem sees_slice (he : ER c h w e a.tmps) {t el : TypeId} {x : Operand} {lo hi : Option Operand} {i : TypeInfo} (ho : o.op = .slice t x lo hi none) (hu : P.underlying t = some (.slice el)) (hi' : P.info? el = some i)
    (hp : aop P Γ (.slice i.size (cOpd x) (lo.map cOpd) (hi.map cOpd)) e h k kp) : Sees P c h w a o k := by
  simp only [aop, evK_eq] at hp
  have hx := he.ev x
  have hrun : ∀ (ad : Option Addr) (len cap l hh : Nat), a.eval x = .slice ad len cap → (Instr.sliceBounds true len cap (lo.map a.eval) (hi.map a.eval) none).run P w = .ok (l, hh, cap) w →
      (execOp a.eval o).run P w = .ok (.value (.slice (if cap = l then ad else ad.map (·.add (l * i.size))) (hh - l) (cap - l))) w := by
    intro ad len cap l hh hx hr
    simp [execOp, ho, hx, Instr.sliceAt, run_underlying hu, Instr.slice, hr, sizeOf_run hi']
  split at hp
  · rename_i sz n get h1
    rw [h1] at hx
    replace hp := asr_iff.1 hp
    obtain ⟨hsz, hp⟩ := hp
    have hsz := Nat.eq_of_beq_eq_true hsz
    obtain ⟨ad, cap, hxe, hnc, hor⟩ := hx.lst_inv
    obtain ⟨l, hh, hp, hbr⟩ := bounds_run (P := P) (w := w) he true n cap hp
    replace hp := asr_iff.1 hp
    obtain ⟨hb, hp⟩ := hp
    simp only [Bool.and_eq_true, decide_eq_true_eq] at hb
    obtain ⟨⟨h0, h1⟩, h2⟩ := hb
    refine .of _ _ hp (hrun _ _ _ _ _ hxe (hbr h0 h1 (by omega))) ?_
    by_cases hz : hh.toNat - l.toNat = 0
    · rw [hz]
      exact .pure (.lst0 _ _ _ _)
    · rcases hor with rfl | ⟨b, off, C, ty, fz, rfl, hb, hw, hn, hc, hcell⟩
      · omega
      · rw [if_neg (by omega)]
        simp only [Option.map_some, add_eq]
        refine .pure (.lst sz _ _ b (off + l.toNat * i.size) _ C ty fz hb hw ?_ (by omega) (fun j hj => hc _ (by omega)) fun j j' v y hj hv hy => hcell (l.toNat + j) j' v y (by omega) hv ?_)
        · have e1 : (l.toNat + (hh.toNat - l.toNat)) * sz ≤ n * sz := Nat.mul_le_mul_right _ (by omega)
          rw [Nat.add_mul] at e1
          rw [← hsz]
          omega
        · rw [← hy, ← hsz, Nat.add_mul]
          congr 1
          omega
  · rename_i ii g sz off len cap hev
    rw [hev] at hx
    clear hev
    replace hp := asr_iff.1 hp
    obtain ⟨hsz, hp⟩ := hp
    have hsz := Nat.eq_of_beq_eq_true hsz
    obtain ⟨hp, sz', elems, sk, hob⟩ := liveK_inv hp
    obtain ⟨hsz', ad, cc, hxe, hlc, hcap, hor⟩ := hx.sl_inv hob rfl
    obtain ⟨l, hh, hp, hbr⟩ := bounds_run (P := P) (w := w) he true len cc hp
    replace hp := asr_iff.1 hp
    obtain ⟨hb, hp⟩ := hp
    simp only [Bool.and_eq_true, decide_eq_true_eq] at hb
    obtain ⟨h0, h1⟩ := hb
    have hfull : cap = none → l.toNat ≤ cc → ∃ ty n, w.shape? (c.β ii) = some (ty, n) ∧ (off + l.toNat) * sz + (cc - l.toNat) * sz = n := fun hcn hlc2 => by
      subst hcn
      obtain ⟨ty, n, h1, h2⟩ := hx.sl_full hob rfl hxe
      refine ⟨ty, n, h1, ?_⟩
      rw [← h2, ← Nat.add_mul, ← Nat.add_mul]
      congr 1
      omega
    have hmk : ∀ cap', (cap' = none → cap = none) → hh.toNat ≤ cc → (∀ k, cap' = some k → cc - l.toNat = k) → VR c h w (.sl ii g sz (off + l.toNat) (hh.toNat - l.toNat) cap') (.slice (if cc = l.toNat then some ad else (some ad).map (·.add (l.toNat * i.size))) (hh.toNat - l.toNat) (cc - l.toNat)) := by
      intro cap' hcn hle hk
      cases hx with
      | pure hx => cases hx
      | sl _ _ _ _ _ _ _ _ hi hg _ =>
      refine .sl _ _ _ _ _ _ _ ⟨_, _, _, rfl⟩ hi hg fun o' ho' hgo => ?_
      rw [hob] at ho'; cases ho'
      by_cases hz : cc = l.toNat
      · rw [if_pos hz]
        exact ⟨hsz', ad, _, rfl, by omega, hk, .inl (by omega), fun h => hfull (hcn h) (by omega)⟩
      · rw [if_neg hz]
        simp only [Option.map_some]
        refine ⟨hsz', _, _, rfl, by omega, hk, .inr ?_, fun h => hfull (hcn h) (by omega)⟩
        rcases hor with h0 | ⟨rfl, ty, n, hsh, hle'⟩
        · omega
        · refine ⟨by rw [add_eq, Nat.add_mul, hsz], ty, n, hsh, ?_⟩
          have e1 : (off + l.toNat) * sz + (cc - l.toNat) * sz = off * sz + cc * sz := by
            rw [← Nat.add_mul, ← Nat.add_mul]
            congr 1
            omega
          omega
    cases cap with
    | some cp =>
      replace hp := asr_iff.1 hp
      obtain ⟨hb2, hp⟩ := hp
      simp only [decide_eq_true_eq] at hb2
      have hcp := hcap cp rfl
      refine .of _ _ hp (hrun _ _ _ _ _ hxe (hbr h0 h1 (by omega))) (hmk _ (fun h => by cases h) (by omega) fun k hk => by cases hk; omega)
    | none =>
      replace hp := asr_iff.1 hp
      obtain ⟨hb2, hp⟩ := hp
      simp only [decide_eq_true_eq] at hb2
      refine .of _ _ hp (hrun _ _ _ _ _ hxe (hbr h0 h1 (by omega))) (hmk _ (fun _ => rfl) (by omega) fun k hk => by cases hk)
  · rename_i h1
    rw [h1] at hx
    obtain ⟨l, hh, hp, hbr⟩ := bounds_run (P := P) (w := w) he true 0 0 hp
    replace hp := asr_iff.1 hp
    obtain ⟨hb, hp⟩ := hp
    simp only [Bool.and_eq_true, decide_eq_true_eq] at hb
    obtain ⟨h0, h1⟩ := hb
    subst h0; subst h1
    refine .of _ _ hp (hrun _ _ _ _ _ hx.nils_inv (hbr (by omega) (by omega) (by omega))) ?_
    exact .pure .nils
  · exact hp.elim

theorem sees_indexAddr (he : ER c h w e a.tmps) {t el : TypeId} {x i : Operand} {ti : TypeInfo} (ho : o.op = .indexAddr t x i) (hu : P.underlying t = some (.slice el)) (hti : P.info? el = some ti)
    (hp : aop P Γ (.indexAddr ti.size (cOpd x) (cOpd i)) e h k kp) : Sees P c h w a o k := by
  simp only [aop, evK_eq] at hp
  have hx := he.ev x
  have hi := he.ev i
  have hrun : ∀ b off len cap kk (j : Int), a.eval x = .slice (some ⟨b, off, none⟩) len cap → a.eval i = .int kk j → 0 ≤ j → j < len →
      (execOp a.eval o).run P w = .ok (.value (.pointer (some ⟨b, off + j.toNat * ti.size, none⟩))) w := by
    intro b off len cap kk j hx hi h0 h1
    simp [execOp, ho, hx, hi, Instr.indexAt, asIntOf, run_underlying hu, h0, h1, sizeOf_run hti, add_eq]
  split at hp
  · rename_i sz n get kk j h1 h2
    rw [h1] at hx; rw [h2] at hi
    replace hp := asr_iff.1 hp
    obtain ⟨hsz, hp⟩ := hp
    have hsz := Nat.eq_of_beq_eq_true hsz
    replace hp := asr_iff.1 hp
    obtain ⟨hb, hp⟩ := hp
    simp only [Bool.and_eq_true, decide_eq_true_eq] at hb
    obtain ⟨ad, cap, hxe, hnc, hor⟩ := hx.lst_inv
    rcases hor with rfl | ⟨b, off, C, ty, fz, rfl, hbI, hw, hn, hc, hcell⟩
    · omega
    · refine .of _ _ hp (hrun _ _ _ _ _ _ hxe hi.int_inv hb.1 hb.2) ?_
      have hj : j.toNat < n := by omega
      have := VP.ipt (w := w) (get j.toNat) 0 b (off + j.toNat * sz) C ty fz hbI hw (by
        rw [hc _ hj]
        have e1 : (j.toNat + 1) * sz ≤ n * sz := Nat.mul_le_mul_right _ hj
        rw [Nat.succ_mul] at e1
        omega) fun j' u y hu hy => hcell j.toNat j' u y hj hu hy
      rw [← hsz]
      exact .pure this
  · rename_i ii g sz off len cap kk j h1 h2
    rw [h1] at hx; rw [h2] at hi
    replace hp := asr_iff.1 hp
    obtain ⟨hsz, hp⟩ := hp
    have hsz := Nat.eq_of_beq_eq_true hsz
    obtain ⟨hp, sz', elems, sk, hob⟩ := liveK_inv hp
    replace hp := asr_iff.1 hp
    obtain ⟨hb, hp⟩ := hp
    simp only [Bool.and_eq_true, decide_eq_true_eq] at hb
    obtain ⟨hsz', ad, cc, hxe, hlc, hcap, hor⟩ := hx.sl_inv hob rfl
    rcases hor with h0 | ⟨rfl, ty, n, hsh, hle⟩
    · omega
    · refine .of _ _ hp (hrun _ _ _ _ _ _ hxe hi.int_inv hb.1 hb.2) ?_
      cases hx with
      | pure hx => cases hx
      | sl _ _ _ _ _ _ _ _ hii hg _ =>
      refine .ref _ _ _ _ _ ⟨_, rfl⟩ hii hg fun o' ho' hgo => ?_
      rw [hob] at ho'; cases ho'
      simp only [AObj.sz] at hsz' ⊢
      rw [hsz', ← hsz, Nat.add_mul]
      rfl
  · exact hp.elim

theorem sees_indexArr (hr : Rep c h w) (he : ER c h w e a.tmps) {t el : TypeId} {n : Nat} {x i : Operand} {ti : TypeInfo} (ho : o.op = .indexAddr t x i) (hu : P.underlying t = some (.array n el)) (hti : P.info? el = some ti)
    (hp : aop P Γ (.indexArr n ti.size (cOpd x) (cOpd i)) e h k kp) : Sees P c h w a o k := by
  simp only [aop, evK_eq] at hp
  have hx := he.ev x
  have hi := he.ev i
  have hrun : ∀ b off kk (j : Int), a.eval x = .pointer (some ⟨b, off, none⟩) → a.eval i = .int kk j → 0 ≤ j → j < n →
      (execOp a.eval o).run P w = .ok (.value (.pointer (some ⟨b, off + j.toNat * ti.size, none⟩))) w := by
    intro b off kk j hx hi h0 h1
    simp [execOp, ho, hx, hi, Instr.indexAt, asIntOf, Instr.sureAddr, run_underlying hu, h0, h1, sizeOf_run hti, add_eq]
  split at hp
  · rename_i ii g idx sub _ jj h1 h2
    rw [h1] at hx; rw [h2] at hi
    replace hp := asr_iff.1 hp
    obtain ⟨hb, hp⟩ := hp
    simp only [Bool.and_eq_true, decide_eq_true_eq] at hb
    obtain ⟨m, hl⟩ := h
    simp only [idxK, lookO_eq] at hp
    split at hp
    · rename_i ob hob
      split at hp
      · rename_i g' sz' elems sk
        replace hp := asr_iff.1 hp
        obtain ⟨hg, hp⟩ := hp
        have hg := Nat.eq_of_beq_eq_true hg
        subst hg
        have hq := hx.ref_inv (o := .vec g' sz' elems sk) hob rfl
        simp only [AObj.sz] at hq
        have hii : ii < m := by
          cases hx with
          | pure hx => cases hx
          | ref _ _ _ _ _ _ hii _ _ => exact hii
        have hgg : ∀ o, (Heap.mk m hl).obj ii = some o → g' ≤ o.gen := by
          cases hx with
          | pure hx => cases hx
          | ref _ _ _ _ _ _ _ hgg _ => exact hgg
        rcases brE hp with ⟨hs, hp⟩ | ⟨hs, hp⟩
        · have hs := Nat.eq_of_beq_eq_true hs
          refine .of _ _ hp (hrun _ _ _ _ hq hi.int_inv hb.1 hb.2) ?_
          refine .ref _ _ _ _ _ ⟨_, rfl⟩ hii hgg fun o' ho' _ => ?_
          have e : (Heap.mk m hl).obj ii = some (.vec g' sz' elems sk) := hob
          rw [e] at ho'; cases ho'
          simp only [AObj.sz]
          rw [hs, Nat.add_mul, Nat.add_right_comm]
        · refine .of _ _ hp (hrun _ _ _ _ hq hi.int_inv hb.1 hb.2) ?_
          refine .ref _ _ _ _ _ ⟨_, rfl⟩ hii hgg fun o' ho' _ => ?_
          have e : (Heap.mk m hl).obj ii = some (.vec g' sz' elems sk) := hob
          rw [e] at ho'; cases ho'
          simp only [AObj.sz]
          rw [Nat.add_assoc]
      · exact hp.elim
    · exact hp.elim
  · rename_i g _ jj h1 h2
    rw [h1] at hx; rw [h2] at hi
    replace hp := asr_iff.1 hp
    obtain ⟨hb, hp⟩ := hp
    simp only [Bool.and_eq_true, decide_eq_true_eq] at hb
    split at hp
    · rename_i v hv
      obtain ⟨hI, C, ty, fz, hw, hn, hc⟩ := hr.glob.1 g v hv
      refine .of _ _ hp (hrun _ _ _ _ hx.glob_inv hi.int_inv hb.1 hb.2) ?_
      have := VP.ipt (Im := c.Im) (w := w) v (0 + jj.toNat * ti.size) g 0 C ty fz hI hw (by omega) (fun j u x hu hx => hc j u x hu (by rw [Nat.zero_add] at hx; exact hx))
      simp only [Nat.zero_add] at this ⊢
      exact .pure this
    · exact hp.elim
  · rename_i h1 h2
    rw [h1] at hx; rw [h2] at hi
    replace hp := asr_iff.1 hp
    obtain ⟨hb, hp⟩ := hp
    simp only [Bool.and_eq_true, decide_eq_true_eq] at hb
    obtain ⟨b, q, C, ty, fz, hq, hbI, hw, hn, hc⟩ := hx.ipt_inv
    refine .of _ _ hp (hrun _ _ _ _ hq hi.int_inv hb.1 hb.2) ?_
    rw [Nat.add_assoc]
    exact .pure (.ipt _ _ _ _ _ _ _ hbI hw hn hc)
  · exact hp.elim

theorem sees_len (he : ER c h w e a.tmps) {cl : Call} {x : Operand} {t : TypeId} {b : Bool} (ho : o.op = .call cl) (hcl : cl.callee = .builtin .len) (hargs : cl.args.toList = [x]) (htys : cl.argTypes.toList = [t])
    (hu : match b with | true => P.underlying t = some .string | false => ∃ el, P.underlying t = some (.slice el))
    (hp : aop P Γ (.len b (cOpd x)) e h k kp) : Sees P c h w a o k := by
  simp only [aop, evK_eq] at hp
  have hx := he.ev x
  have hargs' : cl.args = #[x] := by simpa using congrArg List.toArray hargs
  have htys' : cl.argTypes = #[t] := by simpa using congrArg List.toArray htys
  have hl : b = false → ∀ ad n m, a.eval x = .slice ad n m → (execOp a.eval o).run P w = .ok (.value (.int .i64 n)) w := by
    intro hb ad n m hs
    subst hb
    obtain ⟨el, hel⟩ := hu
    simp [execOp, ho, resolve, hcl, hargs', htys', invoke, builtin, Builtin.len_, run_underlying hel, hs, goInt]
  split at hp
  · rename_i s h1
    rw [h1] at hx
    refine .of _ _ hp ?_ .int
    have hsz : (ByteArray.mk s.toArray).size = s.length := by simp [ByteArray.size]
    simp [execOp, ho, resolve, hcl, hargs', htys', invoke, builtin, Builtin.len_, run_underlying hu, hx.str_inv, goInt, hsz]
  · rename_i h1
    rw [h1] at hx
    obtain ⟨ad, cap, hxe, _, _⟩ := hx.lst_inv
    exact .of _ _ hp (hl rfl _ _ _ hxe) .int
  · rename_i h1
    rw [h1] at hx
    obtain ⟨hp, ob, hob, hg⟩ := liveF_inv hp
    obtain ⟨_, ad, cc, hxe, _⟩ := hx.sl_inv hob hg
    exact .of _ _ hp (hl rfl _ _ _ hxe) .int
  · rename_i h1
    rw [h1] at hx
    exact .of _ _ hp (hl rfl _ _ _ hx.nils_inv) .int
  · exact hp.elim

theorem sees_mm (he : ER c h w e a.tmps) {cl : Call} {x y : Operand} {m : Bool} (ho : o.op = .call cl) (hcl : cl.callee = .builtin (if m then .max else .min)) (hargs : cl.args.toList = [x, y])
    (hp : aop P Γ (.mm m (cOpd x) (cOpd y)) e h k kp) : Sees P c h w a o k := by
  simp only [aop, evK_eq] at hp
  have hx := he.ev x
  have hy := he.ev y
  have hargs' : cl.args = #[x, y] := by simpa using congrArg List.toArray hargs
  split at hp
  · rename_i kk p k' q h1 h2
    rw [h1] at hx; rw [h2] at hy
    cases m
    · refine .of _ _ hp ?_ .int
      simp [execOp, ho, resolve, hcl, hargs', invoke, builtin, Builtin.min_, Builtin.min2, hx.int_inv, hy.int_inv]
    · refine .of _ _ hp ?_ .int
      simp [execOp, ho, resolve, hcl, hargs', invoke, builtin, Builtin.max_, Builtin.max2, hx.int_inv, hy.int_inv]
  · exact hp.elim
end
end Ab
