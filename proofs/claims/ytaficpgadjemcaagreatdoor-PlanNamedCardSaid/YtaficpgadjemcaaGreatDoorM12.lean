/- Parts of the proof of PnP, one behind the other. -/
import Derived.Test.YtaficpgadjemcaaGreatDoorM11
import Derived.Test.YtaficpgadjemcaaGreatDoorM6
import Derived.Test.YtaficpgadjemcaaGreatDoorProg
import Derived.KernelRfl
import Derived.Test.YtaficpgadjemcaaGreatDoorCards
import Derived.JoinedOf
namespace Go.Proofs.YtaficpgadjemcaaGreatDoor
open Ab Go.RowKit
set_option maxRecDepth 100000
set_option linter.unusedVariables false
set_option linter.unusedSimpArgs false
set_option maxHeartbeats 4000000
set_option pp.maxSteps 3000
attribute [local irreducible] allLtK appendK
theorem elems_vs {h : Heap} {s : List V} : Elems h 3 (lstV s) (s.map V.sv) := fun k hk => by
  refine elems_lst k ?_
  have e : (List.range s.length).map (fun i => (s.getD i vnull).sv) = s.map V.sv := by
    apply List.ext_getElem
    · simp
    · intro i h1 h2
      have h3 : i < s.length := by simpa using h2
      simp [List.getD, h3]
  rw [e]
  exact hk
theorem allOnes_vs : ∀ (l : List V), allOnes (l.map V.sv) = true
  | [] => rfl
  | b :: r => by
    show (_ && allOnes (r.map V.sv)) = true
    rw [allOnes_vs r]; rfl
theorem store_vs {vs : List V} {i idx : Nat} {v : V} {K : List SV → Prop} (hi : idx = i) (h : i < vs.length) (hk : K ((vs.set i v).map V.sv)) :
    (match getL (vs.map V.sv) idx with | some w => storeV w v.sv 0 (fun w' => setL (vs.map V.sv) idx w' K) | none => False) := by
  subst hi
  have e : getL (vs.map V.sv) idx = some (vs[idx]).sv := by
    rw [getL_eq, List.getElem?_map, List.getElem?_eq_getElem h]
    rfl
  rw [e]
  show setL (vs.map V.sv) idx v.sv K
  exact setL_iff.2 ⟨by simpa using h, by rw [List.map_set] at hk; exact hk⟩
theorem vs_lt {vs : List V} {m : Nat} : ∀ v ∈ vs.map V.sv, SV.lt 8 m v = true := fun v hv => by
  obtain ⟨b, _, rfl⟩ := List.mem_map.1 hv
  rfl
theorem app_vs {ty : TypeId} {m i g : Nat} {b : List V} {sk : Sk} {l : List (Nat × AObj)} {k : SV → Heap → Prop} (ho : objL l i = some (.vec g 3 [] sk)) (h0 : 0 < b.length) (hb : b.length ≤ 1000)
    (hk : k (.sl m 0 3 0 b.length none) ⟨m + 1, (m, .vec 0 3 (b.map V.sv) ⟨true, some ty⟩) :: l⟩) : appendK ty 3 32 ⟨m, l⟩ (.sl i g 3 0 0 (some 0)) (lstV b) k :=
  append_cap elems_vs (by simpa using h0) (allOnes_vs _) ho (Nat.zero_le _) (by simp; omega) (by simp; omega) (by simp; omega) (by simpa using hk)
theorem app_none {ty : TypeId} {m i g : Nat} {sk : Sk} {l : List (Nat × AObj)} {k : SV → Heap → Prop} (ho : objL l i = some (.vec g 3 [] sk))
    (hk : k (.sl i g 3 0 0 (some 0)) ⟨m, l⟩) : appendK ty 3 32 ⟨m, l⟩ (.sl i g 3 0 0 (some 0)) (lstV []) k :=
  append_noneS elems_vs ho hk
theorem planNamed_any {x : Xp} {a b : List V} (hx : x.In) (ha : ∀ v ∈ a, v.In) (hb : ∀ v ∈ b, v.In) : PCall Tryz.prog 3 [xS x, lstV a, lstV b] (.bool true) := by
  refine pcall_of (lits3 (xS_lit _) (.lst _ _ _) (.lst _ _ _)) (call3 rfl ?_)
  have cl := any
  have cz : PCall Tryz.prog 5 [xS x, .int .i64 301] (.int .i64 ((sizeX x 301 : Nat) : Int)) := size_any 301 x 301 (Nat.le_refl _) (by decide) (by decide) hx
  have hz := sizeX_le x 301 (by decide)
  by_cases h1 : 300 < sizeX x 301
  · have d1 : decide ((300 : Int) < ((sizeX x 301 : Nat) : Int)) = true := decide_eq_true (by omega)
    obtain ⟨op, v, tb, nm, slot, kd, args⟩ := x
    rw [xS_mk] at cz ⊢
    iterate 12 (all_goals (try conv => whnf); all_goals (try first | with_reducible refine brY (by assumption) ?_ | with_reducible refine brN (by assumption) ?_ | (with_reducible refine brT ?_ ?_; · (simp only [Bool.and_eq_true, Bool.not_eq_true', decide_eq_true_eq, decide_eq_false_iff_not, beq_iff_eq, beq_eq_false_iff_ne, ne_eq] at *; omega)) | with_reducible refine br (fun _ => ?_) (fun _ => ?_) | with_reducible refine ⟨rfl, ?_⟩ | with_reducible refine ARound.succ ?_ | with_reducible refine PCall.call (cl) ?_ | with_reducible refine PCall.call (cz) ?_))
    exact leaf rfl (.bool _)
  have d1 : decide ((300 : Int) < ((sizeX x 301 : Nat) : Int)) = false := decide_eq_false (by omega)
  have ht : totX x ≤ 300 := by have := hz.2.2 (by omega); omega
  by_cases h2 : 60 < a.length
  · have d2 : decide ((60 : Int) < (a.length : Int)) = true := decide_eq_true (by omega)
    obtain ⟨op, v, tb, nm, slot, kd, args⟩ := x
    rw [xS_mk] at cz ⊢
    iterate 12 (all_goals (try conv => whnf); all_goals (try first | with_reducible refine brY (by assumption) ?_ | with_reducible refine brN (by assumption) ?_ | (with_reducible refine brT ?_ ?_; · (simp only [Bool.and_eq_true, Bool.not_eq_true', decide_eq_true_eq, decide_eq_false_iff_not, beq_iff_eq, beq_eq_false_iff_ne, ne_eq] at *; omega)) | with_reducible refine br (fun _ => ?_) (fun _ => ?_) | with_reducible refine ⟨rfl, ?_⟩ | with_reducible refine ARound.succ ?_ | with_reducible refine PCall.call (cl) ?_ | with_reducible refine PCall.call (cz) ?_))
    exact leaf rfl (.bool _)
  have d2 : decide ((60 : Int) < (a.length : Int)) = false := decide_eq_false (by omega)
  by_cases h3 : a.length = b.length
  rotate_left
  · have d3 : ((a.length : Int) != (b.length : Int)) = true := by simp; omega
    obtain ⟨op, v, tb, nm, slot, kd, args⟩ := x
    rw [xS_mk] at cz ⊢
    iterate 12 (all_goals (try conv => whnf); all_goals (try first | with_reducible refine brY (by assumption) ?_ | with_reducible refine brN (by assumption) ?_ | (with_reducible refine brT ?_ ?_; · (simp only [Bool.and_eq_true, Bool.not_eq_true', decide_eq_true_eq, decide_eq_false_iff_not, beq_iff_eq, beq_eq_false_iff_ne, ne_eq] at *; omega)) | with_reducible refine br (fun _ => ?_) (fun _ => ?_) | with_reducible refine ⟨rfl, ?_⟩ | with_reducible refine ARound.succ ?_ | with_reducible refine PCall.call (cl) ?_ | with_reducible refine PCall.call (cz) ?_))
    exact leaf rfl (.bool _)
  have d3 : ((a.length : Int) != (b.length : Int)) = false := by simp; omega
  have cn := fun s => named_any 300 x s ht hx
  have ce := fun row h => eval_any 300 x row ht (by decide) hx h
  have hmix := evalX_mix x a b h3
  rcases Nat.eq_zero_or_pos b.length with h0 | h0
  · obtain rfl : b = [] := List.eq_nil_of_length_eq_zero h0
    obtain rfl : a = [] := List.eq_nil_of_length_eq_zero h3
    have c1 := ce [] ha
    generalize evalX x [] = q at c1
    have e1 : (fun z => q.1.k == q.1.k && z) ((fun z => q.1.n == q.1.n && z) (q.1.t == q.1.t)) = true := by simp
    obtain ⟨op, v, tb, nm, slot, kd, args⟩ := x
    rw [xS_mk] at cz c1 ⊢
    iterate 60 (all_goals (try conv => whnf); all_goals (try first | with_reducible refine brY (by assumption) ?_ | with_reducible refine brN (by assumption) ?_ | (with_reducible refine brT ?_ ?_; · (simp only [Bool.and_eq_true, Bool.not_eq_true', decide_eq_true_eq, decide_eq_false_iff_not, beq_iff_eq, beq_eq_false_iff_ne, ne_eq] at *; omega)) | with_reducible refine br (fun _ => ?_) (fun _ => ?_) | with_reducible refine ⟨rfl, ?_⟩ | with_reducible refine ARound.succ ?_ | with_reducible refine PCall.call (cl) ?_ | with_reducible refine PCall.call (cz) ?_ | (refine app_none rfl ?_) | with_reducible refine PCall.call (c1) ?_ | (refine ACall.frz (fun j => Nat.beq j 1) (.cons (.lit (xS_mk op v tb nm slot kd args ▸ xS_lit _)) (.cons (hard_vs (vs := []) rfl rfl) .nil)) ?_) | with_reducible refine loop_rounds 1 ?_))
    exact leaf (by simp) (.bool _)
  · generalize hP : (fun i : Nat => namedX x (i : Int)) = p at hmix
    have cp : ∀ i : Nat, PCall Tryz.prog 6 [xS x, .int .i64 (i : Int)] (.bool (p i)) := fun i => by rw [← hP]; exact cn i
    have c1 := ce a ha
    have c2 := ce (mixV p a b a.length) (fun v hv => (mixV_mem p a b _ (Nat.le_refl _) v hv).elim (ha v) (hb v))
    rw [← hmix] at c2
    generalize evalX x a = q at c1 c2
    have e1 : (fun z => q.1.k == q.1.k && z) ((fun z => q.1.n == q.1.n && z) (q.1.t == q.1.t)) = true := by simp
    obtain ⟨op, v, tb, nm, slot, kd, args⟩ := x
    have hlit := xS_lit (.mk op v tb nm slot kd args)
    rw [xS_mk] at cz c1 c2 hlit ⊢
    simp only [xS_mk] at cp
    iterate 30 (all_goals (try conv => whnf); all_goals (try first | with_reducible refine brY (by assumption) ?_ | with_reducible refine brN (by assumption) ?_ | (with_reducible refine brT ?_ ?_; · (simp only [Bool.and_eq_true, Bool.not_eq_true', decide_eq_true_eq, decide_eq_false_iff_not, beq_iff_eq, beq_eq_false_iff_ne, ne_eq] at *; omega)) | with_reducible refine br (fun _ => ?_) (fun _ => ?_) | with_reducible refine ⟨rfl, ?_⟩ | with_reducible refine ARound.succ ?_ | with_reducible refine PCall.call (cl) ?_ | with_reducible refine PCall.call (cz) ?_ | (refine app_vs rfl h0 (by omega) ?_)))
    refine loop_ind (σ := {i : Nat // i ≤ a.length}) (fun t => [(0, xC op v tb nm slot kd args), (1, lstV a), (2, lstV b), (3, .ref 0 0 0 0), (6, .bool false), (14, .bool false), (29, .bool false), (7, .sl 2 0 3 0 b.length none), (8, .int .i64 (t.1 : Int))])
      (fun t => ⟨3, [(2, .vec 0 3 ((mixV p a b t.1).map V.sv) ⟨true, some 25⟩), (1, .vec 0 3 [] ⟨false, some 25⟩), (0, .vec 0 9 [xC op v tb nm slot kd args] ⟨false, some 28⟩)]⟩) (fun t => a.length - t.1) ?_ ⟨0, Nat.zero_le _⟩
    rintro ⟨i, hi⟩
    dsimp only
    have c := cp i
    by_cases hil : i < a.length
    · have hd : decide ((i : Int) < (a.length : Int)) = true := decide_eq_true (by omega)
      have e7 : IntKind.i64.wrap ((i : Int) + 1) = ((i + 1 : Nat) : Int) := w64add (by omega)
      have hm : mixV p a b (i + 1) = if p i then (mixV p a b i).set i (a.getD i vnull) else mixV p a b i := rfl
      cases hp : p i with
      | true =>
        rw [hp] at c hm
        rw [if_pos rfl] at hm
        iterate 40 (all_goals (try conv => whnf); all_goals (try first | with_reducible refine brY (by assumption) ?_ | with_reducible refine brN (by assumption) ?_ | (with_reducible refine brT ?_ ?_; · (simp only [Bool.and_eq_true, Bool.not_eq_true', decide_eq_true_eq, decide_eq_false_iff_not, beq_iff_eq, beq_eq_false_iff_ne, ne_eq] at *; omega)) | with_reducible refine br (fun _ => ?_) (fun _ => ?_) | with_reducible refine ⟨rfl, ?_⟩ | with_reducible refine ARound.succ ?_ | with_reducible refine PCall.call (c) ?_ | (refine store_vs (i := i) (v := a.getD i vnull) (by simp) (by rw [mixV_len]; omega) ?_) | (refine allLtK_of vs_lt ?_) | (refine allLtK_of (lt_one1 rfl) ?_)))
        exact ⟨⟨i + 1, hil⟩, by dsimp only; omega, by rw [e7], by rw [hm]⟩
      | false =>
        rw [hp] at c hm
        rw [if_neg (by decide)] at hm
        iterate 40 (all_goals (try conv => whnf); all_goals (try first | with_reducible refine brY (by assumption) ?_ | with_reducible refine brN (by assumption) ?_ | (with_reducible refine brT ?_ ?_; · (simp only [Bool.and_eq_true, Bool.not_eq_true', decide_eq_true_eq, decide_eq_false_iff_not, beq_iff_eq, beq_eq_false_iff_ne, ne_eq] at *; omega)) | with_reducible refine br (fun _ => ?_) (fun _ => ?_) | with_reducible refine ⟨rfl, ?_⟩ | with_reducible refine ARound.succ ?_ | with_reducible refine PCall.call (c) ?_ | (refine allLtK_of vs_lt ?_) | (refine allLtK_of (lt_one1 rfl) ?_)))
        exact ⟨⟨i + 1, hil⟩, by dsimp only; omega, by rw [e7], by rw [hm]⟩
    · have hd : decide ((i : Int) < (a.length : Int)) = false := decide_eq_false (by omega)
      obtain rfl : i = a.length := by omega
      iterate 40 (all_goals (try conv => whnf); all_goals (try first | with_reducible refine brY (by assumption) ?_ | with_reducible refine brN (by assumption) ?_ | (with_reducible refine brT ?_ ?_; · (simp only [Bool.and_eq_true, Bool.not_eq_true', decide_eq_true_eq, decide_eq_false_iff_not, beq_iff_eq, beq_eq_false_iff_ne, ne_eq] at *; omega)) | with_reducible refine br (fun _ => ?_) (fun _ => ?_) | with_reducible refine ⟨rfl, ?_⟩ | with_reducible refine ARound.succ ?_ | with_reducible refine PCall.call (c1) ?_ | (refine ACall.frz (fun j => Nat.beq j 2) (.cons (.lit hlit) (.cons (hard_vs (vs := mixV p a b a.length) rfl (by rw [mixV_len])) .nil)) ?_) | with_reducible refine PCall.call (c2) ?_))
      exact leaf (by simp) (.bool _)
end Go.Proofs.YtaficpgadjemcaaGreatDoor
namespace Ab
open Go Go.RowKit
set_option linter.unusedVariables false
set_option linter.unusedSimpArgs false
structure RdB (P : Program) (B : Nat) (t : TypeId) {α : Type} (sv : α → List SV) (ok rich : α → Prop) (sz : Nat) : Prop where
  szof : P.cellsOf t = sz
  len : ∀ x, (sv x).length = sz
  rd : ∀ {H : Type} {enc : TypeId × Value → H} {w : World} {base : Nat} {spare : Nat → Bool} {held : Bool} {fuel : Nat} {cs : List Value} {d : DataW H} {ps : List MemPlace}, fuel ≤ B →
    DataW.trod enc P w base spare held fuel t cs = some (d, ps) → ∃ x, ok x ∧ ((d.weights P t).all (· ≤ reachBytes) = true → rich x) ∧ CR2 w (sv x) cs
section
variable {P : Program} {t : TypeId} {B : Nat}
theorem Rd.toB {α : Type} (r : Rd P t α) : RdB P B t r.sv r.ok r.rich r.sz := ⟨r.szof, r.len, fun _ h => r.rd h⟩
theorem RdB.zero {α : Type} {sv : α → List SV} {ok rich : α → Prop} {sz : Nat} (h1 : P.cellsOf t = sz) (h2 : ∀ x, (sv x).length = sz) : RdB P 0 t sv ok rich sz := ⟨h1, h2, fun {H enc w base spare held fuel cs d ps} hB h => by
  obtain rfl : fuel = 0 := by omega
  simp [DataW.trod] at h⟩
theorem RdB.mono {α : Type} {sv : α → List SV} {ok rich : α → Prop} {sz B' : Nat} (hB : B' ≤ B) (r : RdB P B t sv ok rich sz) : RdB P B' t sv ok rich sz := ⟨r.szof, r.len, fun h1 h => r.rd (Nat.le_trans h1 hB) h⟩
theorem RdB.map {α β : Type} {sv : α → List SV} {ok rich : α → Prop} {sz : Nat} (r : RdB P B t sv ok rich sz) (g : α → β) (sv' : β → List SV) (ok' rich' : β → Prop) (h1 : ∀ x, (∀ (w : World) (cs : List Value), CR2 w (sv x) cs → CR2 w (sv' (g x)) cs)) (h2 : ∀ x, ok x → ok' (g x)) (h3 : ∀ y, (sv' y).length = sz) (h4 : ∀ x, rich x → rich' (g x)) : RdB P B t sv' ok' rich' sz := ⟨r.szof, h3, fun hB h => by
  obtain ⟨x, hx, hw, hc⟩ := r.rd hB h
  exact ⟨g x, h2 x hx, fun h => h4 x (hw h), (h1 x) _ _ hc⟩⟩
/-- The fields of a struct, one behind the other. -/
structure RdFB (P : Program) (B : Nat) (fs : List Field) (off : Nat) {α : Type} (sv : α → List SV) (ok rich : α → Prop) (sz : Nat) : Prop where
  len : ∀ x, (sv x).length = sz
  rd : ∀ {H : Type} {enc : TypeId × Value → H} {w : World} {base : Nat} {spare : Nat → Bool} {held : Bool} {fuel : Nat} {cs : List Value} {xs : List (DataW H × List MemPlace)}, fuel ≤ B →
    fs.mapM (fun f => DataW.trod enc P w base spare held fuel f.type ((cs.drop f.offset).take (P.cellsOf f.type))) = some xs → ∃ x, ok x ∧ ((DataW.weightsEach P (fs.map (·.type)) (xs.map (·.1))).all (· ≤ reachBytes) = true → rich x) ∧ ∀ (j : Nat) (u : SV) (y : Value), (sv x)[j]? = some u → cs[off + j]? = some y → VP (fun b => b < w.heap.size) w u y
theorem RdFB.nil {off : Nat} : RdFB P B [] off (fun _ : Unit => []) (fun _ => True) (fun _ => True) 0 := ⟨fun _ => rfl, fun _ _ => ⟨(), trivial, fun _ => trivial, fun j u y h => by simp at h⟩⟩
theorem RdFB.cons {f : Field} {fs : List Field} {off : Nat} {α β : Type} {sv : α → List SV} {ok rich : α → Prop} {sz : Nat} {sv' : β → List SV} {ok' rich' : β → Prop} {sz' : Nat} (r : RdB P B f.type sv ok rich sz) (ho : f.offset = off) (rest : RdFB P B fs (off + sz) sv' ok' rich' sz') :
    RdFB P B (f :: fs) off (fun x : α × β => sv x.1 ++ sv' x.2) (fun x => ok x.1 ∧ ok' x.2) (fun x => rich x.1 ∧ rich' x.2) (sz + sz') := ⟨fun x => by rw [List.length_append, r.len, rest.len], fun {H enc w base spare held fuel cs xs} hB h => by
  rw [List.mapM_cons] at h
  cases hf : DataW.trod enc P w base spare held fuel f.type ((cs.drop f.offset).take (P.cellsOf f.type)) with
  | none => rw [hf] at h; cases h
  | some b =>
    cases hl : fs.mapM (fun f => DataW.trod enc P w base spare held fuel f.type ((cs.drop f.offset).take (P.cellsOf f.type))) with
    | none => rw [hf, hl] at h; cases h
    | some bs =>
      obtain ⟨x, hx, hwx, hlen, hcr⟩ := r.rd (d := b.1) (ps := b.2) hB hf
      obtain ⟨y, hy, hwy, hcr'⟩ := rest.rd hB hl
      have hxs : b :: bs = xs := by rw [hf, hl] at h; exact Option.some.inj h
      subst hxs
      refine ⟨(x, y), ⟨hx, hy⟩, fun hw => ?_, fun j u z hu hz => ?_⟩
      · simp only [List.map_cons, DataW.weightsEach, List.all_append, Bool.and_eq_true] at hw
        exact ⟨hwx hw.1, hwy hw.2⟩
      rw [List.getElem?_append] at hu
      rw [r.len] at hu
      by_cases hj : j < sz
      · rw [if_pos hj] at hu
        refine hcr j u z hu ?_
        rw [List.getElem?_take, r.szof, if_pos hj, List.getElem?_drop, ho]
        exact hz
      · rw [if_neg hj] at hu
        refine hcr' (j - sz) u z hu ?_
        rw [← hz]
        congr 1
        omega⟩
theorem RdB.struct {fs : Array Field} {α : Type} {sv : α → List SV} {ok rich : α → Prop} {sz : Nat} (hu : P.underlying t = some (.struct fs)) (rf : RdFB P B fs.toList 0 sv ok rich sz) (hc : P.cellsOf t = sz) : RdB P (B + 1) t sv ok rich sz := ⟨hc, rf.len, fun {H enc w base spare held fuel cs d ps} hB h => by
  cases fuel with
  | zero => simp [DataW.trod] at h
  | succ fuel =>
    unfold DataW.trod at h
    rw [hu] at h
    dsimp only at h
    split at h
    · rename_i hlen
      cases hm : fs.toList.mapM (fun f => DataW.trod enc P w base spare held fuel f.type ((cs.drop f.offset).take (P.cellsOf f.type))) with
      | none => rw [hm] at h; cases h
      | some xs =>
        obtain ⟨x, hx, hwx, hcr⟩ := rf.rd (by omega) hm
        rw [hm] at h
        have hd : d = .agg (xs.map (·.1)) := by cases h; rfl
        exact ⟨x, hx, fun hw => hwx (by rw [hd] at hw; simp only [DataW.weights, hu] at hw; exact hw), by rw [hlen, hc, rf.len], fun j u y h1 h2 => hcr j u y h1 (by rw [Nat.zero_add]; exact h2)⟩
    · cases h⟩
/-- A slice; what is told of it behind its end is free. -/
theorem RdB.slice {e : TypeId} {α : Type} {sv : α → List SV} {ok rich : α → Prop} {sz : Nat} (hu : P.underlying t = some (.slice e)) (hc : P.cellsOf t = 1) (r : RdB P B e sv ok rich sz) (hsz : 0 < sz) (mk : α → SV) (hmk : ∀ x, (mk x).cells = sv x) (dflt : α) (get : List α → Nat → SV) (hget : ∀ (l : List α) (i : Nat), i < l.length → get l i = mk (l.getD i dflt)) :
    RdB P (B + 1) t (fun l => [.lst sz l.length (get l)]) (fun l => (∀ x ∈ l, ok x) ∧ l.length ≤ 9223372036854775807) (fun l => (∀ x ∈ l, rich x) ∧ l.length * P.bytesOf e ≤ 140737488351232) 1 := ⟨hc, fun _ => rfl, fun {H enc w base spare held fuel cs d ps} hB h => by
  cases fuel with
  | zero => simp [DataW.trod] at h
  | succ fuel =>
    unfold DataW.trod at h
    rw [hu] at h
    split at h <;> (try rename_i he; try (cases he)) <;> try cases h
    · exact ⟨[], ⟨(fun x hx => by cases hx), Nat.zero_le _⟩, fun _ => ⟨(fun x hx => by cases hx), by simp⟩, cr2_one (.lst0 _ _ _ _)⟩
    · rename_i a len cap
      dsimp only at h
      split at h
      · rename_i hcond
        obtain ⟨hb, hlc, hcm⟩ := hcond
        cases hm : (List.range len).mapM (fun i => (w.cells? base (a.add (i * P.cellsOf e)) (P.cellsOf e)).bind (DataW.trod enc P w base spare held fuel e)) with
        | none => rw [hm] at h; cases h
        | some elems =>
          obtain ⟨h1, h2⟩ := mapM_some hm
          have hel : ∀ i, i < len → ∃ x ci, (ok x ∧ ∀ y, elems[i]? = some y → (y.1.weights P e).all (· ≤ reachBytes) = true → rich x) ∧ CR2 w (sv x) ci ∧ w.cells? base (a.add (i * sz)) sz = some ci := by
            intro i hi
            obtain ⟨y, hyi, hy⟩ := h2 i i (by rw [List.getElem?_range hi])
            rw [r.szof] at hy
            cases hci : w.cells? base (a.add (i * sz)) sz with
            | none => rw [hci] at hy; cases hy
            | some ci =>
              rw [hci] at hy
              obtain ⟨x, hx, hwx, hcr⟩ := r.rd (d := y.1) (ps := y.2) (by omega) hy
              exact ⟨x, ci, ⟨hx, fun y' hy' hw => hwx (by rw [hyi] at hy'; cases hy'; exact hw)⟩, hcr, rfl⟩
          classical
          let f : Nat → α := fun i => if hi : i < len then Classical.choose (hel i hi) else dflt
          have hf : ∀ i, i < len → ∃ ci, (ok (f i) ∧ ∀ y, elems[i]? = some y → (y.1.weights P e).all (· ≤ reachBytes) = true → rich (f i)) ∧ CR2 w (sv (f i)) ci ∧ w.cells? base (a.add (i * sz)) sz = some ci := fun i hi => by
            have e1 : f i = Classical.choose (hel i hi) := by simp only [f]; rw [dif_pos hi]
            rw [e1]
            exact Classical.choose_spec (hel i hi)
          have hgetD : ∀ i, i < len → ((List.range len).map f).getD i dflt = f i := fun i hi => by simp [List.getD, hi]
          have hlen : ((List.range len).map f).length = len := by simp
          refine ⟨(List.range len).map f, ⟨fun x hx => ?_, by rw [hlen]; unfold maxLen at hcm; omega⟩, fun hw => ?_, cr2_one ?_⟩
          · obtain ⟨i, hi, rfl⟩ := List.mem_map.1 hx
            exact (hf i (List.mem_range.1 hi)).choose_spec.1.1
          · rw [hm] at h
            have hel2 : elems.length = len := by rw [h1, List.length_range]
            have hd : ∃ sp, d = .slice (elems.map (·.1)) sp := by
              simp only [Option.bind_eq_bind, Option.bind_some] at h
              obtain ⟨sp, _, h⟩ := Option.map_eq_some_iff.1 h
              exact ⟨_, (Prod.mk.inj h).1.symm⟩
            obtain ⟨sp, rfl⟩ := hd
            simp only [DataW.weights, hu, List.all_cons, List.all_append, Bool.and_eq_true, List.length_map, decide_eq_true_eq] at hw
            refine ⟨fun x hx => ?_, ?_⟩
            · obtain ⟨i, hi, rfl⟩ := List.mem_map.1 hx
              have hi := List.mem_range.1 hi
              obtain ⟨ci, hok, _⟩ := hf i hi
              refine hok.2 elems[i] (List.getElem?_eq_getElem (by omega)) ?_
              exact weightsAll_at hw.2.1 (i := i) (by rw [List.getElem?_map, List.getElem?_eq_getElem (by omega)]; rfl)
            · rw [hlen]
              have hw1 := hw.1
              rw [hel2] at hw1
              have : len * P.bytesOf e ≤ (len + sp.length) * P.bytesOf e := Nat.mul_le_mul_right _ (by omega)
              unfold reachBytes at hw1
              omega
          · rw [hlen]
            rcases Nat.eq_zero_or_pos len with h0 | h0
            · subst h0; exact .lst0 _ _ _ _
            · -- the block
              have hcell : ∀ i j, i < len → j < sz → ∃ y, w.cell? ((a.add (i * sz)).add j) = some y ∧ ∀ u, (sv (f i))[j]? = some u → VP (fun b => b < w.heap.size) w u y := by
                intro i j hi hj
                obtain ⟨ci, _, hcr, hci⟩ := hf i hi
                obtain ⟨hl, hat⟩ := cells_at hci
                obtain ⟨y, hy, hw⟩ := hat j hj
                exact ⟨y, hw, fun u hu => hcr.2 j u y hu hy⟩
              obtain ⟨y0, hw0, _⟩ := hcell 0 0 h0 hsz
              have hspot : a.spot = none := by
                cases hs : a.spot with
                | none => rfl
                | some p =>
                  exfalso
                  simp only [Nat.zero_mul, Addr.add, hs] at hw0
                  unfold World.cell? at hw0
                  split at hw0
                  · simp at hw0
                    rw [hs] at hw0
                    cases hw0.1
                  · cases hw0
              obtain ⟨b, off, sp⟩ := a
              simp only at hspot
              subst hspot
              have hadd : ∀ i j, ((⟨b, off, none⟩ : Addr).add (i * sz)).add j = ⟨b, off + i * sz + j, none⟩ := fun i j => by rw [add_eq, add_eq]
              rw [hadd] at hw0
              unfold World.cell? at hw0
              split at hw0
              · rename_i C ty fz hC
                have hall : ∀ i j, i < len → j < sz → ∃ y, C[off + i * sz + j]? = some y ∧ ∀ u, (sv (f i))[j]? = some u → VP (fun b => b < w.heap.size) w u y := by
                  intro i j hi hj
                  obtain ⟨y, hw, hv⟩ := hcell i j hi hj
                  rw [hadd] at hw
                  simp only [World.cell?, hC, Option.isSome_none] at hw
                  exact ⟨y, by simpa using hw, hv⟩
                have hblt : b < w.heap.size := by
                  rcases Nat.lt_or_ge b w.heap.size with hh | hh
                  · exact hh
                  · rw [Array.getElem?_eq_none hh] at hC; cases hC
                refine .lst _ _ _ b off cap C ty fz hblt hC ?_ hlc (fun i hi => by rw [hget _ i (by rw [hlen]; exact hi), hmk, r.len]) fun i j v x hi hv hx => ?_
                · obtain ⟨y, hy, _⟩ := hall (len - 1) (sz - 1) (by omega) (by omega)
                  have hlt : off + (len - 1) * sz + (sz - 1) < C.size := by
                    rcases Nat.lt_or_ge (off + (len - 1) * sz + (sz - 1)) C.size with hh | hh
                    · exact hh
                    · rw [Array.getElem?_eq_none hh] at hy; cases hy
                  have e1 : len * sz = (len - 1) * sz + sz := by
                    rw [← Nat.succ_mul]; congr 1; omega
                  omega
                · rw [hget _ i (by rw [hlen]; exact hi), hmk, hgetD i hi] at hv
                  have hj : j < sz := by rw [← r.len (f i)]; exact getq_lt hv
                  obtain ⟨y, hy, hvp⟩ := hall i j hi hj
                  rw [hy] at hx; cases hx
                  exact hvp v hv
              · cases hw0
      · cases h⟩
/-- Up to every bound: so whatever the steps. -/
def RdB.all {α : Type} {sv : α → List SV} {ok rich : α → Prop} {sz : Nat} (h : ∀ B, RdB P B t sv ok rich sz) : Rd P t α where
  sv := sv
  ok := ok
  rich := rich
  sz := sz
  szof := (h 0).szof
  len := (h 0).len
  rd {H enc w base spare held fuel cs d ps} hh := (h fuel).rd (Nat.le_refl _) hh
end
end Ab
namespace Go.Proofs.YtaficpgadjemcaaGreatDoor
open Ab Go.RowKit
set_option linter.unusedVariables false
set_option linter.unusedSimpArgs false
theorem i64_in {n : Int} (h : IntKind.i64.min ≤ n ∧ n ≤ IntKind.i64.max) : -9223372036854775808 ≤ n ∧ n ≤ 9223372036854775807 := by
  have e1 : IntKind.i64.min = -9223372036854775808 := by decide
  have e2 : IntKind.i64.max = 9223372036854775807 := by decide
  omega
theorem u8_in {n : Int} (h : IntKind.u8.min ≤ n ∧ n ≤ IntKind.u8.max) : 0 ≤ n ∧ n ≤ 255 := by
  have e1 : IntKind.u8.min = 0 := by decide
  have e2 : IntKind.u8.max = 255 := by decide
  omega
noncomputable def rdI64 : Rd Tryz.prog 2 Int := (Rd.int (k := .i64) Tryz.underlying2 (by kernel_rfl)).map id (fun n => [.int .i64 n]) (fun n => -9223372036854775808 ≤ n ∧ n ≤ 9223372036854775807) (fun _ => rfl) (fun _ h => i64_in h) fun _ => rfl
noncomputable def rdInt : Rd Tryz.prog 3 Int := (Rd.int (k := .i64) Tryz.underlying3 (by kernel_rfl)).map id (fun n => [.int .i64 n]) (fun n => -9223372036854775808 ≤ n ∧ n ≤ 9223372036854775807) (fun _ => rfl) (fun _ h => i64_in h) fun _ => rfl
noncomputable def rdStr : Rd Tryz.prog 9 (List UInt8) := Rd.str Tryz.underlying9 (by kernel_rfl)
noncomputable def rdOp : Rd Tryz.prog 22 Int := (Rd.int (k := .u8) Tryz.underlying22 (by kernel_rfl)).map id (fun n => [.int .u8 n]) (fun n => 0 ≤ n ∧ n ≤ 255) (fun _ => rfl) (fun _ h => u8_in h) fun _ => rfl
noncomputable def rdKind : Rd Tryz.prog 23 Int := (Rd.int (k := .u8) Tryz.underlying23 (by kernel_rfl)).map id (fun n => [.int .u8 n]) (fun n => 0 ≤ n ∧ n ≤ 255) (fun _ => rfl) (fun _ h => u8_in h) fun _ => rfl
noncomputable def rdValue : Rd Tryz.prog 25 V :=
  (Rd.struct Tryz.underlying25 (.cons rdKind rfl (.cons rdI64 rfl (.cons rdStr rfl .nil))) (by kernel_rfl)).map (fun x => ⟨x.1, x.2.1, x.2.2.1⟩) (fun v => [.int .u8 v.k, .int .i64 v.n, .str v.t]) V.In (fun _ => rfl) (fun _ h => ⟨h.1.1, h.2.1.1, h.2.1.2⟩) fun _ => rfl
@[reducible] noncomputable def rdValues : Rd Tryz.prog 29 (List V) := Rd.slice Tryz.underlying29 (by kernel_rfl) rdValue (by decide) V.sv (fun _ => rfl) vnull
def xcells : Xp → List SV
  | .mk op v tb nm slot kd args => [.int .u8 op, .int .u8 v.k, .int .i64 v.n, .str v.t, .str tb, .str nm, .int .i64 slot, .int .u8 kd, .lst 9 args.length (getS (xsS args))]
theorem xcells_eq : ∀ x, SV.agg (xcells x) = xS x
  | .mk .. => by rw [xS]; rfl
theorem xcells_len : ∀ x, (xcells x).length = 9
  | .mk .. => rfl
theorem xS_cells (x : Xp) : (xS x).cells = xcells x := by rw [← xcells_eq]; rfl
theorem xp_B : ∀ B, RdB Tryz.prog B 28 xcells Xp.In (fun _ => True) 9
  | 0 => RdB.zero (by kernel_rfl) xcells_len
  | B + 1 => by
    have ih := xp_B B
    have sl := (RdB.slice (t := 26) Tryz.underlying26 (by kernel_rfl) ih (by decide) xS xS_cells xnull (fun l => getS (xsS l)) xsS_get).mono (Nat.le_succ B)
    have st := RdB.struct Tryz.underlying28 (.cons rdOp.toB rfl (.cons rdValue.toB rfl (.cons rdStr.toB rfl (.cons rdStr.toB rfl (.cons rdInt.toB rfl (.cons rdKind.toB rfl (.cons sl rfl .nil))))))) (by kernel_rfl)
    refine st.map (fun x => Xp.mk x.1 x.2.1 x.2.2.1 x.2.2.2.1 x.2.2.2.2.1 x.2.2.2.2.2.1 x.2.2.2.2.2.2.1) xcells Xp.In (fun _ => True) (fun x w cs h => ?_) (fun x h => .mk h.2.1 h.2.2.2.2.1 h.2.2.2.2.2.2.1.2 h.2.2.2.2.2.2.1.1) xcells_len fun _ _ => trivial
    exact h
noncomputable def rdExpr : Rd Tryz.prog 28 Xp := RdB.all xp_B
theorem planNamed_card {x : Xp} {a b : List V} (hx : x.In) (ha : ∀ v ∈ a, v.In) (hb : ∀ v ∈ b, v.In) : PCall Tryz.prog 3 [.agg (xcells x), lstV a, lstV b] (.bool true) := by
  rw [xcells_eq]
  exact planNamed_any hx ha hb
end Go.Proofs.YtaficpgadjemcaaGreatDoor
namespace Go.Proofs.YtaficpgadjemcaaGreatDoor.planNamed
open Go
set_option maxRecDepth 100000
set_option linter.unusedVariables false
theorem j0 : (Rows.planNamedRow.wf (OpenSpec.ofChange Rows.planNamedSpec)) = true := by kernel_rfl
theorem j1 : (laidOutB Tryz.prog) = true := by kernel_rfl
theorem j2 : (mapsRowed Tryz.prog) = true := by kernel_rfl
theorem j3 : (Tryz.f3.params.all (Tryz.prog.readableRec ·)) = true := by kernel_rfl
theorem j4 : (namedTie Tryz.prog Rows.planNamedRow.named Rows.planNamedSpec.vars) = true := by kernel_rfl
theorem j5 : ((Rows.planNamedRow.stops == [])) = true := by kernel_rfl
theorem j6 : ((Tryz.prog.stops == [])) = true := by kernel_rfl
theorem j7 : ((Rows.planNamedRow.knobs == [])) = true := by kernel_rfl
theorem j8 : ((Tryz.prog.stopKnobs == [])) = true := by kernel_rfl
theorem j9 : ((Rows.planNamedRow.inPlace == Tryz.prog.inPlace 3)) = true := by kernel_rfl
theorem j10 : ((Rows.planNamedRow.unfollowed == Tryz.prog.unfollowed 3)) = true := by kernel_rfl
theorem j11 : ((Rows.planNamedRow.recurses == Tryz.prog.recurses 3)) = true := by kernel_rfl
theorem j12 : ((Rows.planNamedRow.named == Tryz.prog.varsNamed 3)) = true := by kernel_rfl
theorem j13 : ((Rows.planNamedRow.maps == (Tryz.f3.params.toList ++ Rows.planNamedSpec.plain.varTypes Tryz.prog).any (Tryz.prog.mapsRec ·))) = true := by kernel_rfl
theorem j14 : ((Rows.planNamedRow.ifaces == (Tryz.f3.params.toList ++ Rows.planNamedSpec.plain.varTypes Tryz.prog).any (Tryz.prog.ifacesRec ·))) = true := by kernel_rfl
theorem j15 : ((Rows.planNamedRow.mapsOut == Tryz.prog.mapsAmong Tryz.f3.resultTypes.toList)) = true := by kernel_rfl
theorem j16 : ((Rows.planNamedRow.loops == (Tryz.f3.params.toList ++ Rows.planNamedSpec.plain.varTypes Tryz.prog).any (Tryz.prog.loopsFrom ·))) = true := by kernel_rfl
theorem j17 : ((Rows.planNamedRow.wideKeys == (Tryz.f3.params.toList ++ Rows.planNamedSpec.plain.varTypes Tryz.prog ++ Tryz.f3.resultTypes.toList).any (Tryz.prog.wideKeysFrom ·))) = true := by kernel_rfl
theorem j18 : (Rows.planNamedSpec.vars.all (Tryz.prog.varReadable ·)) = true := by kernel_rfl
theorem j19 : (Tryz.f3.resultTypes.all (fun t => Tryz.prog.readableRec t && decide (t < Tryz.prog.types.size))) = true := by kernel_rfl
theorem j20 : ((Rows.planNamedRow.ifacesOut == Tryz.f3.resultTypes.toList.any (Tryz.prog.ifacesRec ·))) = true := by kernel_rfl
theorem j21 : ((Rows.planNamedRow.loopsOut == Tryz.f3.resultTypes.toList.any (Tryz.prog.loopsFrom ·))) = true := by kernel_rfl
theorem j22 : ((Rows.planNamedRow.plainKeys == Tryz.prog.plainKeys)) = true := by kernel_rfl
theorem j23 : (Rows.planNamedRow.shortTexts.isNone) = true := by kernel_rfl
theorem j24 : (Tryz.prog.stopsHeard) = true := by kernel_rfl
theorem j25 : (Tryz.prog.mayEnter) = true := by kernel_rfl
theorem j26 : ((Rows.planNamedRow.lifted == Tryz.prog.liftsFinal)) = true := by kernel_rfl
theorem j27 : ((Tryz.prog.make == some Rows.planNamedRow.make)) = true := by kernel_rfl
theorem j28 : ((Rows.planNamedRow.kinds == (if Rows.planNamedRow.domain.isEmpty then [] else Tryz.f3.params.toList.map fun t => match Tryz.prog.underlying t with | some (.int k) => some k | _ => none))) = true := by kernel_rfl
theorem j29 : ((Rows.planNamedRow.pinned == Rows.planNamedRow.pinnedBy)) = true := by kernel_rfl
theorem j30 : ((Rows.planNamedRow.veiled == (Tryz.f3.params.toList ++ Rows.planNamedSpec.plain.varTypes Tryz.prog ++ Tryz.f3.resultTypes.toList).any (Tryz.prog.veiledRec ·))) = true := by kernel_rfl
theorem j31 : (Rows.planNamedRow.veiledFits Tryz.prog Tryz.f3.params.toList (Tryz.f3.params.toList ++ Rows.planNamedSpec.plain.varTypes Tryz.prog ++ Tryz.f3.resultTypes.toList)) = true := by kernel_rfl
theorem and_t {a b : Bool} (h : a = true) (k : b = true) : (a && b) = true := by rw [h, k]; rfl
theorem facts : joinedFacts Tryz.prog 3 Tryz.f3 Rows.planNamedSpec Rows.planNamedRow = true := by
  unfold joinedFacts
  exact and_t (and_t (and_t (and_t (and_t (and_t (and_t (and_t (and_t (and_t (and_t (and_t (and_t (and_t (and_t (and_t (and_t (and_t (and_t (and_t (and_t (and_t (and_t (and_t (and_t (and_t (and_t (and_t (and_t (and_t (and_t (j0) j1) j2) j3) j4) j5) j6) j7) j8) j9) j10) j11) j12) j13) j14) j15) j16) j17) j18) j19) j20) j21) j22) j23) j24) j25) j26) j27) j28) j29) j30) j31
end Go.Proofs.YtaficpgadjemcaaGreatDoor.planNamed
