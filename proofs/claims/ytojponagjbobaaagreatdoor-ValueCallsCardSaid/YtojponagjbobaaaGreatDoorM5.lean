/- Parts of the proof of PCalls, one behind the other. -/
import Derived.Test.YtojponagjbobaaaGreatDoorM4
import Derived.Test.YtojponagjbobaaaGreatDoorCE1M
import Derived.Test.YtojponagjbobaaaGreatDoorCE2M
import Derived.Test.YtojponagjbobaaaGreatDoorCEM
import Derived.OpenShut
import Derived.LaidSub
import Derived.RowKit
import Derived.WalkKit
import Derived.Test.YtojponagjbobaaaGreatDoorProg
import Derived.KernelRfl
import Derived.Lib.ItoaNum
import Derived.Lib.Bytealg
import Derived.Below
import Derived.Sort.Grow
import Derived.Shelf.Unicode.ValidAny
import Derived.Shelf.Strconv.Itoa4
namespace Ab
open Go
theorem LaidVars_mem {P : Program} {w : World} {n : String} {d : DataW Unit} : ∀ {l : List (String × DataW Unit)} {ps : List MemPlace}, DataW.LaidVars P w l ps → (n, d) ∈ l →
    ∃ g t cs fuel p enc, P.globalNamed n = some g ∧ (P.globals[g]?).map (·.type) = some t ∧ w.var? P n = some cs ∧ DataW.trod enc P w 0 (fun _ => true) false fuel t cs.toList = some (d, p)
  | [], _, _, hm => by cases hm
  | (n', d') :: r, ps, h, hm => by
    obtain ⟨g, t, cs, fuel, p, q, e1, e2, e3, e4, hr, rfl⟩ := h
    rcases List.mem_cons.1 hm with he | hm
    · cases he
      exact ⟨g, t, cs, fuel, p, _, e1, e2, e3, e4⟩
    · exact LaidVars_mem hr hm
theorem table_laid {P : Program} {w : World} {laid : List (String × DataW Unit)} (h : laidMetH P laid w) {n : String} {l : List (IntKind × Int)} (hm : (n, DataW.agg (l.map fun p => DataW.lit (.int p.1 p.2))) ∈ laid)
    {g t el m : Nat} {k : IntKind} (hg : P.globalNamed n = some g) (ht : (P.globals[g]?).map (·.type) = some t) (hu : P.underlying t = some (.array m el)) (hk : P.underlying el = some (.int k)) (c1 : P.cellsOf el = 1) (hml : m = l.length) (hct : P.cellsOf t = l.length) :
    ∃ C ty fz, w.heap[g]? = some (.cells C ty fz) ∧ l.length = C.size ∧ ∀ (j : Nat) (p : IntKind × Int), l[j]? = some p → C[j]? = some (.int p.1 p.2) := by
  obtain ⟨⟨ps, hl, _⟩, _⟩ := laidMetH_iff.1 h
  obtain ⟨g', t', cs, fuel, p, enc, e1, e2, e3, e4⟩ := LaidVars_mem hl (List.mem_filter.2 ⟨hm, rfl⟩)
  obtain rfl := Option.some.inj (hg.symm.trans e1)
  obtain rfl := Option.some.inj (ht.symm.trans e2)
  obtain ⟨xs, f, _, ex, hcl, hlen, hel⟩ := DataW.trod_array hu e4
  have hx : xs.map (·.1) = l.map fun p => (DataW.lit (.int p.1 p.2) : DataW Unit) := (DataW.agg.inj (Prod.mk.inj ex).1).symm
  simp only [World.var?, hg, Option.bind_some] at e3
  have cell : ∀ j, j < m → ∃ (p : IntKind × Int), l[j]? = some p ∧ cs[j]? = some (.int p.1 p.2) := fun j hj => by
    have hE := hel j hj
    rw [c1, Nat.mul_one, List.getElem?_eq_getElem (by omega)] at hE
    obtain ⟨z, h1, h2, _⟩ := DataW.trod_int hk hE
    have h3 : (xs.map (·.1))[j]? = some (DataW.lit (.int k z)) := by rw [List.getElem?_map, List.getElem?_eq_getElem (by omega), Option.map_some, h2]
    rw [hx, List.getElem?_map] at h3
    obtain ⟨p, hp, h4⟩ := Option.map_eq_some_iff.1 h3
    simp only [DataW.lit.injEq, Lit.int.injEq] at h4
    refine ⟨p, hp, ?_⟩
    have h0 : ((cs.toList.drop j).take 1)[0]? = some (.int k z) := by rw [h1]; rfl
    rw [h4.1, h4.2]
    simpa using h0
  split at e3
  · rename_i C ty fz hw
    cases e3
    refine ⟨_, ty, fz, hw, ?_, fun j p hp => ?_⟩
    · rw [← hct, ← hcl]; simp
    · have hj : j < m := by have := (List.getElem?_eq_some_iff.1 hp).1; omega
      obtain ⟨p', h1, h2⟩ := cell j hj
      rw [hp] at h1; cases h1
      exact h2
  · cases e3

theorem globOk_of {Im : Nat → Prop} {w : World} (h : ∀ g, globTab g ≠ [] → Im g ∧ ∃ C ty fz, w.heap[g]? = some (.cells C ty fz) ∧ (globTab g).length = C.size ∧ ∀ (j : Nat) (p : IntKind × Int), (globTab g)[j]? = some p → C[j]? = some (.int p.1 p.2)) : GlobOk Im w := fun g v hg => by
  unfold globSV at hg
  split at hg
  · cases hg
  · rename_i hne
    cases hg
    obtain ⟨h1, C, ty, fz, h2, h3, h4⟩ := h g hne
    refine ⟨h1, C, ty, fz, h2, by simpa [SV.cells] using h3, fun j u x hu hx => ?_⟩
    simp only [SV.cells, List.getElem?_map] at hu
    obtain ⟨p, hp, rfl⟩ := Option.map_eq_some_iff.1 hu
    rw [h4 j p hp] at hx
    cases hx
    exact .int _ _
end Ab
namespace Ab
open Go
def pairs {α : Type} : List α → List (α × α)
  | a :: b :: r => (a, b) :: pairs r
  | _ => []
def evenL {α : Type} : List α → Bool
  | [] => true
  | [_] => false
  | _ :: _ :: r => evenL r
theorem pairs_len {α : Type} : ∀ {l : List α}, evenL l = true → l.length = 2 * (pairs l).length
  | [], _ => rfl
  | [_], h => by cases h
  | _ :: _ :: r, h => by
    have := pairs_len (l := r) h
    simp only [pairs, List.length_cons]
    omega
theorem pairs_get {α : Type} : ∀ {l : List α} {j : Nat} {p : α}, evenL l = true → l[j]? = some p → ∃ q : α × α, (pairs l)[j / 2]? = some q ∧ (j % 2 = 0 ∧ p = q.1 ∨ j % 2 = 1 ∧ p = q.2)
  | [], _, _, _, h => by simp at h
  | [_], _, _, h, _ => by cases h
  | a :: b :: r, 0, p, _, h => ⟨(a, b), rfl, .inl ⟨rfl, by simpa using h.symm⟩⟩
  | a :: b :: r, 1, p, _, h => ⟨(a, b), rfl, .inr ⟨rfl, by simpa using h.symm⟩⟩
  | a :: b :: r, j + 2, p, he, h => by
    obtain ⟨q, h1, h2⟩ := pairs_get (l := r) (j := j) he (by simpa using h)
    refine ⟨q, ?_, ?_⟩
    · rw [show (j + 2) / 2 = j / 2 + 1 by omega]
      simpa [pairs] using h1
    · rw [show (j + 2) % 2 = j % 2 by omega]
      exact h2
theorem table2_laid {P : Program} {w : World} {laid : List (String × DataW Unit)} (h : laidMetH P laid w) {n : String} {l : List (IntKind × Int)} (hev : evenL l = true)
    (hm : (n, DataW.agg ((pairs l).map fun p => DataW.agg [DataW.lit (.int p.1.1 p.1.2), DataW.lit (.int p.2.1 p.2.2)])) ∈ laid)
    {g t el m : Nat} {k0 k1 : IntKind} {f0 f1 : Field} (hg : P.globalNamed n = some g) (ht : (P.globals[g]?).map (·.type) = some t) (hu : P.underlying t = some (.array m el)) (hs : P.underlying el = some (.struct #[f0, f1]))
    (hk0 : P.underlying f0.type = some (.int k0)) (hk1 : P.underlying f1.type = some (.int k1)) (c2 : P.cellsOf el = 2) (o0 : f0.offset = 0) (o1 : f1.offset = 1) (c0 : P.cellsOf f0.type = 1) (c1 : P.cellsOf f1.type = 1) (hml : 2 * m = l.length) (hct : P.cellsOf t = l.length) :
    ∃ C ty fz, w.heap[g]? = some (.cells C ty fz) ∧ l.length = C.size ∧ ∀ (j : Nat) (p : IntKind × Int), l[j]? = some p → C[j]? = some (.int p.1 p.2) := by
  obtain ⟨⟨ps, hl, _⟩, _⟩ := laidMetH_iff.1 h
  obtain ⟨g', t', cs, fuel, p, enc, e1, e2, e3, e4⟩ := LaidVars_mem hl (List.mem_filter.2 ⟨hm, rfl⟩)
  obtain rfl := Option.some.inj (hg.symm.trans e1)
  obtain rfl := Option.some.inj (ht.symm.trans e2)
  obtain ⟨xs, f, _, ex, hcl, hlen, hel⟩ := DataW.trod_array hu e4
  have hx : xs.map (·.1) = (pairs l).map fun p => (DataW.agg [DataW.lit (.int p.1.1 p.1.2), DataW.lit (.int p.2.1 p.2.2)] : DataW Unit) := (DataW.agg.inj (Prod.mk.inj ex).1).symm
  simp only [World.var?, hg, Option.bind_some] at e3
  have cell : ∀ j, j < m → ∃ (p : (IntKind × Int) × (IntKind × Int)), (pairs l)[j]? = some p ∧ cs[2 * j]? = some (.int p.1.1 p.1.2) ∧ cs[2 * j + 1]? = some (.int p.2.1 p.2.2) := fun j hj => by
    have hE := hel j hj
    rw [c2, List.getElem?_eq_getElem (by omega)] at hE
    obtain ⟨y0, y1, n, h1, _, h2, h3⟩ := Go.ChangeShapes.trod_struct2 hs hE
    rw [o0, c0] at h2
    rw [o1, c1] at h3
    obtain ⟨z0, a1, a2, _⟩ := DataW.trod_int hk0 h2
    obtain ⟨z1, b1, b2, _⟩ := DataW.trod_int hk1 h3
    have h4 : (xs.map (·.1))[j]? = some (DataW.agg [DataW.lit (.int k0 z0), DataW.lit (.int k1 z1)]) := by
      rw [List.getElem?_map, List.getElem?_eq_getElem (by omega), Option.map_some, h1, a2, b2]
    rw [hx, List.getElem?_map] at h4
    obtain ⟨p, hp, h5⟩ := Option.map_eq_some_iff.1 h4
    simp only [DataW.agg.injEq, List.cons.injEq, DataW.lit.injEq, Lit.int.injEq, and_true] at h5
    obtain ⟨⟨q1, q2⟩, q3, q4⟩ := h5
    refine ⟨p, hp, ?_, ?_⟩
    · have h0 : ((((cs.toList.drop (j * 2)).take 2).drop 0).take 1)[0]? = some (.int k0 z0) := by rw [a1]; rfl
      rw [q1, q2, Nat.mul_comm]
      simpa using h0
    · have h0 : ((((cs.toList.drop (j * 2)).take 2).drop 1).take 1)[0]? = some (.int k1 z1) := by rw [b1]; rfl
      rw [q3, q4, Nat.mul_comm]
      simpa using h0
  split at e3
  · rename_i C ty fz hw
    cases e3
    refine ⟨_, ty, fz, hw, ?_, fun j p hp => ?_⟩
    · rw [← hct, ← hcl]; simp
    · have hj : j < l.length := (List.getElem?_eq_some_iff.1 hp).1
      obtain ⟨p', h1, h2, h3⟩ := cell (j / 2) (by omega)
      obtain ⟨q, h4, h5⟩ := pairs_get hev hp
      rw [h4] at h1; cases h1
      rcases h5 with ⟨h5, rfl⟩ | ⟨h5, rfl⟩
      · rw [show 2 * (j / 2) = j by omega] at h2; exact h2
      · rw [show 2 * (j / 2) + 1 = j by omega] at h3; exact h3
  · cases e3
end Ab
namespace Go.Proofs.YtojponagjbobaaaGreatDoor
open Go.RowKit


structure V where
  k : Int
  n : Int
  t : List UInt8



def vnull : V := ⟨0, 0, []⟩
def vint (n : Int) : V := ⟨2, n, []⟩
def vbool (b : Bool) : V := ⟨1, if b then 1 else 0, []⟩

def cmpI (a b : Int) : Int := if a < b then -1 else if b < a then 1 else 0
def cmpS (a b : List UInt8) : Int := if Op.bytesLess a b then -1 else if a == b then 0 else 1
def or3 (a b c : Int) : Int := if a ≠ 0 then a else if b ≠ 0 then b else c
def cmpV (a b : V) : Int := or3 (cmpI a.k b.k) (cmpI a.n b.n) (cmpS a.t b.t)
def cmpL : List V → List V → Int
  | a :: ar, b :: br => if cmpV a b ≠ 0 then cmpV a b else cmpL ar br
  | ar, br => cmpI ar.length br.length

def okV (v : V) : Bool :=
  if v.k = 0 then v.n == 0 && v.t == []
  else if v.k = 1 then (v.n == 0 || v.n == 1) && v.t == []
  else if v.k = 2 then v.t == []
  else if v.k = 3 then v.n == 0 && decide (v.t.length ≤ 64)
  else false
def chk (v : V) : Int := if okV v then 0 else 2

/-- Are two values the same? -/
def eq3 (k n : Int) (t : List UInt8) (k' n' : Int) (t' : List UInt8) : Bool := k == k' && (n == n' && t == t')
def eqV (a b : V) : Bool := eq3 a.k a.n a.t b.k b.n b.t
def isT (v : V) : Bool := eq3 v.k v.n v.t (vbool true).k (vbool true).n (vbool true).t
def isF (v : V) : Bool := v.k == 1 && v.n == 0

def takes (op : Int) : Int := if 3 ≤ op ∧ op ≤ 16 then 2 else if 17 ≤ op ∧ op ≤ 20 then 1 else 0
def holdsI (op c : Int) : Bool :=
  if op = 9 then c == 0 else if op = 10 then c != 0 else if op = 11 then decide (c < 0) else if op = 12 then decide (c ≤ 0) else if op = 13 then decide (0 < c) else decide (0 ≤ c)

def inI (x : Int) : Bool := decide (-9223372036854775808 ≤ x ∧ x ≤ 9223372036854775807)
/-- What an operation of two whole numbers comes to: a number, or an error. -/
def numI (op a b : Int) : Int × Int :=
  if op = 3 then (if inI (a + b) then (a + b, 0) else (0, 221))
  else if op = 4 ∨ op = 18 then (if inI (a - b) then (a - b, 0) else (0, 221))
  else if op = 5 then (if inI (a * b) then (a * b, 0) else (0, 221))
  else if b = 0 then (0, 222)
  else if op = 7 then (a.tmod b, 0)
  else if inI (a.tdiv b) then (a.tdiv b, 0) else (0, 221)
def numV (op a b : Int) : V × Int := if (numI op a b).2 = 0 then (vint (numI op a b).1, 0) else (vnull, (numI op a b).2)

def allK (want : Int) (ks : List Int) : Bool := ks.all fun k => k == want || k == 0
/-- The kind that an operation gives, and the error. -/
def givesI (op : Int) (ks : List Int) : Int × Int :=
  if takes op = 0 ∨ (ks.length : Int) ≠ takes op then (0, 2)
  else if ks.any fun k => decide (3 < k) then (0, 2)
  else if (3 ≤ op ∧ op ≤ 7) ∨ op = 18 then (if allK 2 ks then (2, 0) else (0, 220))
  else if op = 8 then (if allK 3 ks then (3, 0) else (0, 220))
  else if op = 15 ∨ op = 16 ∨ op = 17 then (if allK 1 ks then (1, 0) else (0, 220))
  else if op = 19 ∨ op = 20 then (1, 0)
  else if allK (max (ks.getD 0 0) (ks.getD 1 0)) ks then (1, 0) else (0, 220)

/-- An operation on values that may be, of kinds that go together. -/
def doOn (op : Int) (l : List V) : V × Int :=
  let x := l.getD 0 vnull
  let y := l.getD 1 vnull
  let null := l.any fun v => v.k == 0
  if op = 19 then (vbool null, 0)
  else if op = 20 then (vbool (!null), 0)
  else if op = 15 ∧ (isF x || isF y) = true then (vbool false, 0)
  else if op = 16 ∧ (isT x || isT y) = true then (vbool true, 0)
  else if null then (vnull, 0)
  else if op = 15 then (vbool true, 0)
  else if op = 16 then (vbool false, 0)
  else if op = 17 then (vbool (!isT x), 0)
  else if op = 18 then numV op 0 x.n
  else if op = 8 then (if 64 < x.t.length + y.t.length then (vnull, 3) else (⟨3, 0, x.t ++ y.t⟩, 0))
  else if 3 ≤ op ∧ op ≤ 7 then numV op x.n y.n
  else (vbool (holdsI op (cmpL [x] [y])), 0)

def doV (op : Int) (l : List V) : V × Int :=
  if takes op = 0 ∨ (l.length : Int) ≠ takes op then (vnull, 2)
  else if l.any fun v => !okV v then (vnull, 2)
  else if (givesI op (l.map (·.k))).2 ≠ 0 then (vnull, (givesI op (l.map (·.k))).2)
  else doOn op l


theorem inI_iff {x : Int} : inI x = true ↔ -9223372036854775808 ≤ x ∧ x ≤ 9223372036854775807 := by unfold inI; simp
theorem inI_not {x : Int} : inI x = false ↔ ¬ (-9223372036854775808 ≤ x ∧ x ≤ 9223372036854775807) := by unfold inI; simp

theorem numV_ok {op a b x : Int} (h : numI op a b = (x, 0)) : numV op a b = (vint x, 0) := by simp [numV, h]
theorem numV_no {op a b e : Int} (he : e ≠ 0) (h : numI op a b = (0, e)) : numV op a b = (vnull, e) := by simp [numV, h, he]

theorem tdiv_half {x d : Int} (h : 2 ≤ d.natAbs) (h1 : x.natAbs ≤ 9223372036854775808) : (x.tdiv d).natAbs ≤ 4611686018427387904 := by
  rw [Int.natAbs_tdiv]
  calc x.natAbs / d.natAbs ≤ x.natAbs / 2 := Nat.div_le_div_left h (by decide)
    _ ≤ 4611686018427387904 := by omega

theorem mul_zero_ (b : Int) : numV 5 0 b = (vint 0, 0) := numV_ok (by simp [numI, inI])
theorem div_none {op a : Int} (hop : op = 6 ∨ op = 7) : numV op a 0 = (vnull, 222) :=
  numV_no (by decide) (by unfold numI; rw [if_neg (by omega), if_neg (by omega), if_neg (by omega), if_pos rfl])
theorem div_neg (a : Int) : numV 6 a (-1) = numV 4 0 a := by
  have e1 : numI 6 a (-1) = if inI (a.tdiv (-1)) then (a.tdiv (-1), 0) else (0, 221) := by
    unfold numI
    rw [if_neg (by omega), if_neg (by omega), if_neg (by omega), if_neg (by omega), if_neg (by omega)]
  have e2 : numI 4 0 a = if inI (0 - a) then (0 - a, 0) else (0, 221) := by
    unfold numI
    rw [if_neg (by omega), if_pos (by omega)]
  have e : numI 6 a (-1) = numI 4 0 a := by rw [e1, e2, Int.tdiv_neg, Int.tdiv_one, Int.zero_sub]
  simp only [numV, e]

theorem mod_yes {a b : Int} (h0 : b ≠ 0) : numV 7 a b = (vint (a.tmod b), 0) :=
  numV_ok (by unfold numI; rw [if_neg (by omega), if_neg (by omega), if_neg (by omega), if_neg h0, if_pos rfl])

section
variable {a b : Int} (ha : -9223372036854775808 ≤ a) (ha' : a ≤ 9223372036854775807) (hb : -9223372036854775808 ≤ b) (hb' : b ≤ 9223372036854775807)
include ha ha' hb hb'

theorem sum_yes (h : (0 < b ∧ a < wrap64 (a + b)) ∨ (¬ 0 < b ∧ wrap64 (a + b) ≤ a)) : numV 3 a b = (vint (wrap64 (a + b)), 0) := by
  have hi : -9223372036854775808 ≤ a + b ∧ a + b ≤ 9223372036854775807 := by unfold wrap64 at h; omega
  have hw : wrap64 (a + b) = a + b := by unfold wrap64; omega
  exact numV_ok (by rw [hw]; unfold numI; rw [if_pos rfl, if_pos (inI_iff.2 hi)])
theorem sum_no (h : (0 < b ∧ wrap64 (a + b) ≤ a) ∨ (¬ 0 < b ∧ a < wrap64 (a + b))) : numV 3 a b = (vnull, 221) := by
  have hi : ¬ (-9223372036854775808 ≤ a + b ∧ a + b ≤ 9223372036854775807) := by unfold wrap64 at h; omega
  exact numV_no (by decide) (by unfold numI; rw [if_pos rfl, if_neg (by rw [inI_not.2 hi]; decide)])
theorem dif_yes {op : Int} (hop : op = 4 ∨ op = 18) (h : (0 < b ∧ wrap64 (a - b) < a) ∨ (¬ 0 < b ∧ a ≤ wrap64 (a - b))) : numV op a b = (vint (wrap64 (a - b)), 0) := by
  have hi : -9223372036854775808 ≤ a - b ∧ a - b ≤ 9223372036854775807 := by unfold wrap64 at h; omega
  have hw : wrap64 (a - b) = a - b := by unfold wrap64; omega
  exact numV_ok (by rw [hw]; unfold numI; rw [if_neg (by omega), if_pos hop, if_pos (inI_iff.2 hi)])
theorem dif_no {op : Int} (hop : op = 4 ∨ op = 18) (h : (0 < b ∧ a ≤ wrap64 (a - b)) ∨ (¬ 0 < b ∧ wrap64 (a - b) < a)) : numV op a b = (vnull, 221) := by
  have hi : ¬ (-9223372036854775808 ≤ a - b ∧ a - b ≤ 9223372036854775807) := by unfold wrap64 at h; omega
  exact numV_no (by decide) (by unfold numI; rw [if_neg (by omega), if_pos hop, if_neg (by rw [inI_not.2 hi]; decide)])

theorem tdiv_in (h0 : b ≠ 0) (h1 : b ≠ -1) : -9223372036854775808 ≤ a.tdiv b ∧ a.tdiv b ≤ 9223372036854775807 := by
  by_cases hb1 : b = 1
  · subst hb1; simp; omega
  · have := tdiv_half (x := a) (d := b) (by omega) (by omega)
    omega

theorem mul_yes (h0 : a ≠ 0) (h : wrap64 ((wrap64 (a * b)).tdiv a) = b) (h1 : ¬ (a = -1 ∧ b = -9223372036854775808)) : numV 5 a b = (vint (wrap64 (a * b)), 0) := by
  have hx : -9223372036854775808 ≤ wrap64 (a * b) ∧ wrap64 (a * b) ≤ 9223372036854775807 := by unfold wrap64; omega
  obtain ⟨k, hk⟩ : ∃ k, wrap64 (a * b) = a * b - 18446744073709551616 * k := ⟨(a * b + 9223372036854775808) / 18446744073709551616, by unfold wrap64; omega⟩
  have hq : (wrap64 (a * b)).tdiv a = b := by
    generalize wrap64 (a * b) = x at *
    by_cases e1 : a = 1
    · subst e1; simp at h ⊢; unfold wrap64 at h; omega
    · by_cases e2 : a = -1
      · subst e2; rw [Int.tdiv_neg, Int.tdiv_one] at h ⊢; unfold wrap64 at h; omega
      · have := tdiv_half (x := x) (d := a) (by omega) (by omega)
        unfold wrap64 at h; omega
  have hr := Int.mul_tdiv_add_tmod (wrap64 (a * b)) a
  rw [hq] at hr
  have hm : ((wrap64 (a * b)).tmod a).natAbs < a.natAbs := by
    rw [Int.natAbs_tmod]; exact Nat.mod_lt _ (by omega)
  have hw : wrap64 (a * b) = a * b := by
    generalize (wrap64 (a * b)).tmod a = r at *
    generalize a * b = p at *
    omega
  exact numV_ok (by rw [hw]; unfold numI; rw [if_neg (by omega), if_neg (by omega), if_pos rfl, if_pos (inI_iff.2 (by rw [← hw]; exact hx))])
theorem mul_no (h0 : a ≠ 0) (h : ¬ wrap64 ((wrap64 (a * b)).tdiv a) = b ∨ (a = -1 ∧ b = -9223372036854775808)) : numV 5 a b = (vnull, 221) := by
  have hi : ¬ (-9223372036854775808 ≤ a * b ∧ a * b ≤ 9223372036854775807) := by
    intro hi
    rcases h with h | ⟨rfl, rfl⟩
    · have hw : wrap64 (a * b) = a * b := by generalize a * b = p at *; unfold wrap64; omega
      rw [hw, Int.mul_tdiv_cancel_left b h0] at h
      unfold wrap64 at h; omega
    · omega
  exact numV_no (by decide) (by unfold numI; rw [if_neg (by omega), if_neg (by omega), if_pos rfl, if_neg (by rw [inI_not.2 hi]; decide)])
theorem div_yes (h0 : b ≠ 0) (h1 : b ≠ -1) : numV 6 a b = (vint (a.tdiv b), 0) :=
  numV_ok (by unfold numI; rw [if_neg (by omega), if_neg (by omega), if_neg (by omega), if_neg h0, if_neg (by omega), if_pos (inI_iff.2 (tdiv_in ha ha' hb hb' h0 h1))])
end


theorem join_small {x y : V} (okx : okV x = true) (oky : okV y = true) (nx : (x.k == 0) = false) (ny : (y.k == 0) = false) (hg : (givesI 8 [x.k, y.k]).2 = 0) : x.t.length ≤ 64 ∧ y.t.length ≤ 64 := by
  have nx' : x.k ≠ 0 := by simpa using nx
  have ny' : y.k ≠ 0 := by simpa using ny
  have h3 : x.k = 3 ∧ y.k = 3 := by
    unfold givesI at hg
    by_cases hb : (([x.k, y.k] : List Int).any fun k => decide (3 < k)) = true
    · rw [if_neg (by simp [takes]), if_pos hb] at hg; simp at hg
    · rw [if_neg (by simp [takes]), if_neg hb, if_neg (by decide), if_pos rfl] at hg
      by_cases ha : allK 3 [x.k, y.k] = true
      · simp [allK, nx', ny'] at ha; exact ha
      · rw [if_neg ha] at hg; simp at hg
  unfold okV at okx oky
  rw [h3.1] at okx
  rw [h3.2] at oky
  simp at okx oky
  exact ⟨okx.2, oky.2⟩
theorem any2 (x y : V) : ([x, y].any fun v => v.k == 0) = ((x.k == 0) || (y.k == 0)) := by simp
theorem any1 (x : V) : ([x].any fun v => v.k == 0) = (x.k == 0) := by simp

section
variable {x y : V}
theorem doOn_15_f (h : (isF x || isF y) = true) : doOn 15 [x, y] = (vbool false, 0) := by
  unfold doOn; simp only [any2, List.getD_cons_zero, List.getD_cons_succ, h]; rfl
theorem doOn_15_n (h : (isF x || isF y) = false) (hn : ((x.k == 0) || (y.k == 0)) = true) : doOn 15 [x, y] = (vnull, 0) := by
  unfold doOn; simp only [any2, List.getD_cons_zero, List.getD_cons_succ, h, hn]; rfl
theorem doOn_15_t (h : (isF x || isF y) = false) (hn : ((x.k == 0) || (y.k == 0)) = false) : doOn 15 [x, y] = (vbool true, 0) := by
  unfold doOn; simp only [any2, List.getD_cons_zero, List.getD_cons_succ, h, hn]; rfl
theorem doOn_16_t (h : (isT x || isT y) = true) : doOn 16 [x, y] = (vbool true, 0) := by
  unfold doOn; simp only [any2, List.getD_cons_zero, List.getD_cons_succ, h]; rfl
theorem doOn_16_n (h : (isT x || isT y) = false) (hn : ((x.k == 0) || (y.k == 0)) = true) : doOn 16 [x, y] = (vnull, 0) := by
  unfold doOn; simp only [any2, List.getD_cons_zero, List.getD_cons_succ, h, hn]; rfl
theorem doOn_16_f (h : (isT x || isT y) = false) (hn : ((x.k == 0) || (y.k == 0)) = false) : doOn 16 [x, y] = (vbool false, 0) := by
  unfold doOn; simp only [any2, List.getD_cons_zero, List.getD_cons_succ, h, hn]; rfl
theorem doOn_null {op : Int} (h0 : 3 ≤ op) (h1 : op ≤ 14) (hn : ((x.k == 0) || (y.k == 0)) = true) : doOn op [x, y] = (vnull, 0) := by
  unfold doOn; simp only [any2, hn]
  rw [if_neg (by omega), if_neg (by omega), if_neg (by omega), if_neg (by omega), if_pos trivial]
theorem doOn_num {op : Int} (h0 : 3 ≤ op) (h1 : op ≤ 7) (hn : ((x.k == 0) || (y.k == 0)) = false) : doOn op [x, y] = numV op x.n y.n := by
  unfold doOn; simp only [any2, hn, List.getD_cons_zero, List.getD_cons_succ]
  rw [if_neg (by omega), if_neg (by omega), if_neg (by omega), if_neg (by omega), if_neg (by decide), if_neg (by omega), if_neg (by omega), if_neg (by omega), if_neg (by omega), if_neg (by omega), if_pos ⟨h0, h1⟩]
theorem doOn_cmp {op : Int} (h0 : 9 ≤ op) (h1 : op ≤ 14) (hn : ((x.k == 0) || (y.k == 0)) = false) : doOn op [x, y] = (vbool (holdsI op (cmpL [x] [y])), 0) := by
  unfold doOn; simp only [any2, hn, List.getD_cons_zero, List.getD_cons_succ]
  rw [if_neg (by omega), if_neg (by omega), if_neg (by omega), if_neg (by omega), if_neg (by decide), if_neg (by omega), if_neg (by omega), if_neg (by omega), if_neg (by omega), if_neg (by omega), if_neg (by omega)]
theorem doOn_8_no (hn : ((x.k == 0) || (y.k == 0)) = false) (h : 64 < x.t.length + y.t.length) : doOn 8 [x, y] = (vnull, 3) := by
  unfold doOn; simp only [any2, hn, List.getD_cons_zero, List.getD_cons_succ, h, if_true]; rfl
theorem doOn_8_yes (hn : ((x.k == 0) || (y.k == 0)) = false) (h : ¬ 64 < x.t.length + y.t.length) : doOn 8 [x, y] = (⟨3, 0, x.t ++ y.t⟩, 0) := by
  unfold doOn; simp only [any2, hn, List.getD_cons_zero, List.getD_cons_succ, h, if_false]; rfl
theorem doOn_19 : doOn 19 [x] = (vbool (x.k == 0), 0) := by unfold doOn; simp only [any1]; rfl
theorem doOn_20 : doOn 20 [x] = (vbool (!(x.k == 0)), 0) := by unfold doOn; simp only [any1]; rfl
theorem doOn_17_n (hn : (x.k == 0) = true) : doOn 17 [x] = (vnull, 0) := by unfold doOn; simp only [any1, hn]; rfl
theorem doOn_18_n (hn : (x.k == 0) = true) : doOn 18 [x] = (vnull, 0) := by unfold doOn; simp only [any1, hn]; rfl
theorem doOn_17 (hn : (x.k == 0) = false) : doOn 17 [x] = (vbool (!isT x), 0) := by unfold doOn; simp only [any1, hn]; rfl
theorem doOn_18 (hn : (x.k == 0) = false) : doOn 18 [x] = numV 18 0 x.n := by unfold doOn; simp only [any1, hn]; rfl
end
end Go.Proofs.YtojponagjbobaaaGreatDoor
namespace Go.Proofs.YtojponagjbobaaaGreatDoor
open Ab Go.RowKit
set_option maxRecDepth 100000
set_option linter.unusedSimpArgs false

@[reducible] def V.sv (v : V) : SV := .agg [.int .u8 v.k, .int .i64 v.n, .str v.t]
theorem V.lit (v : V) : LitV v.sv := .agg (by simp only [List.mem_cons, List.not_mem_nil, or_false]; rintro _ (rfl | rfl | rfl) <;> constructor)
@[reducible] def V.two (p : V × Int) : SV := .tup [p.1.sv, .int .i64 p.2]
theorem V.two_lit (p : V × Int) : LitV (V.two p) := lit2 (V.lit _) (.int _ _)

theorem truth_any (b : Bool) : PCall Tryz.prog 22 [.bool b] (vbool b).sv := by
  refine pcall_of (lits1 (.bool b)) (call22 rfl ?_)
  cases b
  · conv => whnf
    exact leaf rfl (V.lit _)
  · conv => whnf
    exact leaf rfl (V.lit _)

theorem check_any (v : V) : PCall Tryz.prog 21 [v.sv] (.int .i64 (chk v)) := by
  obtain ⟨k, n, t⟩ := v
  refine pcall_of (lits1 (V.lit _)) (call21 rfl ?_)
  iterate 12 (all_goals (try conv => whnf); all_goals (try with_reducible refine br (fun _ => ?_) (fun _ => ?_)))
  all_goals (refine leaf ?_ (.int _ _); simp_all [chk, okV])
  all_goals omega

theorem holds_any (op c : Int) : PCall Tryz.prog 25 [.int .u8 op, .int .i64 c] (.bool (holdsI op c)) := by
  refine pcall_of (lits2 (.int _ _) (.int _ _)) (call25 rfl ?_)
  iterate 12 (all_goals (try conv => whnf); all_goals (try with_reducible refine br (fun _ => ?_) (fun _ => ?_)))
  all_goals (refine leaf ?_ (.bool _); simp_all [holdsI])

theorem takes_any (op : Int) : PCall Tryz.prog 10 [.int .u8 op] (.int .i64 (takes op)) := by
  refine pcall_of (lits1 (.int _ _)) (call10 rfl ?_)
  iterate 24 (all_goals (try conv => whnf); all_goals (try with_reducible refine br (fun _ => ?_) (fun _ => ?_)))
  all_goals (refine leaf ?_ (.int _ _); simp only [beq_iff_eq, beq_eq_false_iff_ne, ne_eq] at *; congr 1; unfold takes; split <;> first | omega | (split <;> omega))

theorem true_any (v : V) : PCall Tryz.prog 15 [v.sv] (.bool (isT v)) := by
  refine pcall_of (lits1 (V.lit _)) (call15 rfl ?_)
  iterate 4 (all_goals (try conv => whnf); all_goals (try first | with_reducible refine brY (by assumption) ?_ | with_reducible refine brN (by assumption) ?_ | (with_reducible refine brT ?_ ?_; · (simp only [Bool.and_eq_true, Bool.not_eq_true', decide_eq_true_eq, decide_eq_false_iff_not, beq_iff_eq, beq_eq_false_iff_ne, ne_eq] at *; omega)) | with_reducible refine br (fun _ => ?_) (fun _ => ?_) | with_reducible refine ⟨rfl, ?_⟩ | with_reducible refine ARound.succ ?_ | with_reducible refine PCall.call (truth_any _) ?_))
  exact leaf rfl (.bool _)

theorem false0_any (v : V) : PCall Tryz.prog 23 [v.sv] (.bool (isF v)) := by
  refine pcall_of (lits1 (V.lit _)) (call23 rfl ?_)
  iterate 3 (all_goals (try conv => whnf); all_goals (try first | with_reducible refine brY (by assumption) ?_ | with_reducible refine brN (by assumption) ?_ | (with_reducible refine brT ?_ ?_; · (simp only [Bool.and_eq_true, Bool.not_eq_true', decide_eq_true_eq, decide_eq_false_iff_not, beq_iff_eq, beq_eq_false_iff_ne, ne_eq] at *; omega)) | with_reducible refine br (fun _ => ?_) (fun _ => ?_) | with_reducible refine ⟨rfl, ?_⟩ | with_reducible refine ARound.succ ?_))
  all_goals (refine leaf ?_ (.bool _); simp_all [isF])

theorem wrap_left (n : Int) : IntKind.i64.wrap n = wrap64 n := by rw [IntKind.wrap_i64]; unfold wrap64; rfl
section
variable {a b : Int} (ha : -9223372036854775808 ≤ a) (ha' : a ≤ 9223372036854775807) (hb : -9223372036854775808 ≤ b) (hb' : b ≤ 9223372036854775807)
include ha ha' hb hb'

theorem number4 {op : Int} (hop : op = 4 ∨ op = 18) : PCall Tryz.prog 24 [.int .u8 op, .int .i64 a, .int .i64 b] (V.two (numV op a b)) := by
  refine pcall_of (lits3 (.int _ _) (.int _ _) (.int _ _)) (call24 rfl ?_)
  have yes := dif_yes ha ha' hb hb' hop
  have no := dif_no ha ha' hb hb' hop
  rcases hop with rfl | rfl
  all_goals iterate 3 (all_goals (try conv => whnf); all_goals (try first | with_reducible refine brY (by assumption) ?_ | with_reducible refine brN (by assumption) ?_ | (with_reducible refine brT ?_ ?_; · (simp only [Bool.and_eq_true, Bool.not_eq_true', decide_eq_true_eq, decide_eq_false_iff_not, beq_iff_eq, beq_eq_false_iff_ne, ne_eq] at *; omega)) | with_reducible refine br (fun _ => ?_) (fun _ => ?_) | with_reducible refine ⟨rfl, ?_⟩ | with_reducible refine ARound.succ ?_))
  all_goals rename_i h
  all_goals simp only [wrap_left] at *
  all_goals simp only [Bool.not_eq_true', Bool.not_eq_false', beq_iff_eq, beq_eq_false_iff_ne, ne_eq, decide_eq_decide] at h
  · exact leaf (congrArg V.two (no (by omega)).symm) (V.two_lit _)
  · exact leaf (congrArg V.two (yes (by omega)).symm) (V.two_lit _)
  · exact leaf (congrArg V.two (no (by omega)).symm) (V.two_lit _)
  · exact leaf (congrArg V.two (yes (by omega)).symm) (V.two_lit _)

theorem number3 : PCall Tryz.prog 24 [.int .u8 3, .int .i64 a, .int .i64 b] (V.two (numV 3 a b)) := by
  refine pcall_of (lits3 (.int _ _) (.int _ _) (.int _ _)) (call24 rfl ?_)
  have yes := sum_yes ha ha' hb hb'
  have no := sum_no ha ha' hb hb'
  iterate 3 (all_goals (try conv => whnf); all_goals (try first | with_reducible refine brY (by assumption) ?_ | with_reducible refine brN (by assumption) ?_ | (with_reducible refine brT ?_ ?_; · (simp only [Bool.and_eq_true, Bool.not_eq_true', decide_eq_true_eq, decide_eq_false_iff_not, beq_iff_eq, beq_eq_false_iff_ne, ne_eq] at *; omega)) | with_reducible refine br (fun _ => ?_) (fun _ => ?_) | with_reducible refine ⟨rfl, ?_⟩ | with_reducible refine ARound.succ ?_))
  all_goals rename_i h
  all_goals simp only [wrap_left] at *
  all_goals simp only [Bool.not_eq_true', Bool.not_eq_false', beq_iff_eq, beq_eq_false_iff_ne, ne_eq, decide_eq_decide] at h
  · exact leaf (congrArg V.two (no (by omega)).symm) (V.two_lit _)
  · exact leaf (congrArg V.two (yes (by omega)).symm) (V.two_lit _)

theorem number5 : PCall Tryz.prog 24 [.int .u8 5, .int .i64 a, .int .i64 b] (V.two (numV 5 a b)) := by
  refine pcall_of (lits3 (.int _ _) (.int _ _) (.int _ _)) (call24 rfl ?_)
  have zero := mul_zero_ b
  have yes := mul_yes ha ha' hb hb'
  have no := mul_no ha ha' hb hb'
  iterate 8 (all_goals (try conv => whnf); all_goals (try first | with_reducible refine brY (by assumption) ?_ | with_reducible refine brN (by assumption) ?_ | (with_reducible refine brT ?_ ?_; · (simp only [Bool.and_eq_true, Bool.not_eq_true', decide_eq_true_eq, decide_eq_false_iff_not, beq_iff_eq, beq_eq_false_iff_ne, ne_eq] at *; omega)) | with_reducible refine br (fun _ => ?_) (fun _ => ?_) | with_reducible refine ⟨rfl, ?_⟩ | with_reducible refine ARound.succ ?_))
  all_goals try simp only [wrap_left] at *
  all_goals simp only [Bool.not_eq_true', Bool.not_eq_false', beq_iff_eq, beq_eq_false_iff_ne, ne_eq, decide_eq_true_eq, decide_eq_false_iff_not, cond_true, cond_false, Bool.not_true, Bool.not_false] at *
  · rename_i h; subst h; exact leaf (by rw [zero, Int.zero_mul, show wrap64 0 = 0 by unfold wrap64; omega]; rfl) (V.two_lit _)
  · exact leaf (congrArg V.two (no (by omega) (by omega)).symm) (V.two_lit _)
  · exact leaf (congrArg V.two (yes (by omega) (by omega) (by omega)).symm) (V.two_lit _)
  · exact leaf (congrArg V.two (yes (by omega) (by omega) (by omega)).symm) (V.two_lit _)
  · exact leaf (congrArg V.two (no (by omega) (by omega)).symm) (V.two_lit _)

theorem number6 : PCall Tryz.prog 24 [.int .u8 6, .int .i64 a, .int .i64 b] (V.two (numV 6 a b)) := by
  refine pcall_of (lits3 (.int _ _) (.int _ _) (.int _ _)) (call24 rfl ?_)
  iterate 5 (all_goals (try conv => whnf); all_goals (try first | with_reducible refine brY (by assumption) ?_ | with_reducible refine brN (by assumption) ?_ | (with_reducible refine brT ?_ ?_; · (simp only [Bool.and_eq_true, Bool.not_eq_true', decide_eq_true_eq, decide_eq_false_iff_not, beq_iff_eq, beq_eq_false_iff_ne, ne_eq] at *; omega)) | with_reducible refine br (fun _ => ?_) (fun _ => ?_) | with_reducible refine ⟨rfl, ?_⟩ | with_reducible refine ARound.succ ?_ | with_reducible refine PCall.call (number4 (by omega) (by omega) ha ha' (.inl rfl)) ?_))
  all_goals simp only [Bool.not_eq_true', Bool.not_eq_false', beq_iff_eq, beq_eq_false_iff_ne, ne_eq, decide_eq_true_eq, decide_eq_false_iff_not] at *
  · rename_i h; subst h; exact leaf (by rw [div_none (.inl rfl)]; rfl) (V.two_lit _)
  · rename_i h; subst h; exact leaf (by rw [div_neg]) (V.two_lit _)
  · refine leaf ?_ (V.two_lit _)
    rw [div_yes ha ha' hb hb' (by omega) (by omega), wrap_left]
    have := tdiv_in ha ha' hb hb' (by omega) (by omega)
    rw [show wrap64 (a.tdiv b) = a.tdiv b by unfold wrap64; omega]
    rfl

omit ha ha' in
theorem number7 : PCall Tryz.prog 24 [.int .u8 7, .int .i64 a, .int .i64 b] (V.two (numV 7 a b)) := by
  refine pcall_of (lits3 (.int _ _) (.int _ _) (.int _ _)) (call24 rfl ?_)
  iterate 5 (all_goals (try conv => whnf); all_goals (try first | with_reducible refine brY (by assumption) ?_ | with_reducible refine brN (by assumption) ?_ | (with_reducible refine brT ?_ ?_; · (simp only [Bool.and_eq_true, Bool.not_eq_true', decide_eq_true_eq, decide_eq_false_iff_not, beq_iff_eq, beq_eq_false_iff_ne, ne_eq] at *; omega)) | with_reducible refine br (fun _ => ?_) (fun _ => ?_) | with_reducible refine ⟨rfl, ?_⟩ | with_reducible refine ARound.succ ?_))
  all_goals simp only [Bool.not_eq_true', Bool.not_eq_false', beq_iff_eq, beq_eq_false_iff_ne, ne_eq, decide_eq_true_eq, decide_eq_false_iff_not] at *
  · rename_i h; subst h; exact leaf (by rw [div_none (.inr rfl)]; rfl) (V.two_lit _)
  · rename_i h; subst h; exact leaf (by rw [mod_yes (by omega), Int.tmod_neg, Int.tmod_one]; rfl) (V.two_lit _)
  · exact leaf (by rw [mod_yes (by omega)]; rfl) (V.two_lit _)
end
end Go.Proofs.YtojponagjbobaaaGreatDoor
namespace Go.Proofs.YtojponagjbobaaaGreatDoor
open Ab Go.RowKit
set_option maxRecDepth 100000
set_option linter.unusedSimpArgs false

theorem nanK (a : Int) : PCall Tryz.prog 62 [.int .u8 a] (.bool false) := by
  refine pcall_of (lits1 (.int _ _)) (call62 rfl ?_)
  iterate 1 (all_goals (try conv => whnf); all_goals (try first | with_reducible refine brY (by assumption) ?_ | with_reducible refine brN (by assumption) ?_ | (with_reducible refine brT ?_ ?_; · (simp only [Bool.and_eq_true, Bool.not_eq_true', decide_eq_true_eq, decide_eq_false_iff_not, beq_iff_eq, beq_eq_false_iff_ne, ne_eq] at *; omega)) | with_reducible refine br (fun _ => ?_) (fun _ => ?_) | with_reducible refine ⟨rfl, ?_⟩ | with_reducible refine ARound.succ ?_))
  exact leaf (by simp) (.bool _)
theorem nan64 (a : Int) : PCall Tryz.prog 63 [.int .i64 a] (.bool false) := by
  refine pcall_of (lits1 (.int _ _)) (call63 rfl ?_)
  iterate 1 (all_goals (try conv => whnf); all_goals (try first | with_reducible refine brY (by assumption) ?_ | with_reducible refine brN (by assumption) ?_ | (with_reducible refine brT ?_ ?_; · (simp only [Bool.and_eq_true, Bool.not_eq_true', decide_eq_true_eq, decide_eq_false_iff_not, beq_iff_eq, beq_eq_false_iff_ne, ne_eq] at *; omega)) | with_reducible refine br (fun _ => ?_) (fun _ => ?_) | with_reducible refine ⟨rfl, ?_⟩ | with_reducible refine ARound.succ ?_))
  exact leaf (by simp) (.bool _)
theorem nanS (a : List UInt8) : PCall Tryz.prog 64 [.str a] (.bool false) := by
  refine pcall_of (lits1 (.str _)) (call64 rfl ?_)
  iterate 1 (all_goals (try conv => whnf); all_goals (try first | with_reducible refine brY (by assumption) ?_ | with_reducible refine brN (by assumption) ?_ | (with_reducible refine brT ?_ ?_; · (simp only [Bool.and_eq_true, Bool.not_eq_true', decide_eq_true_eq, decide_eq_false_iff_not, beq_iff_eq, beq_eq_false_iff_ne, ne_eq] at *; omega)) | with_reducible refine br (fun _ => ?_) (fun _ => ?_) | with_reducible refine ⟨rfl, ?_⟩ | with_reducible refine ARound.succ ?_))
  exact leaf (by simp) (.bool _)
theorem nanI (a : Int) : PCall Tryz.prog 65 [.int .i64 a] (.bool false) := by
  refine pcall_of (lits1 (.int _ _)) (call65 rfl ?_)
  iterate 1 (all_goals (try conv => whnf); all_goals (try first | with_reducible refine brY (by assumption) ?_ | with_reducible refine brN (by assumption) ?_ | (with_reducible refine brT ?_ ?_; · (simp only [Bool.and_eq_true, Bool.not_eq_true', decide_eq_true_eq, decide_eq_false_iff_not, beq_iff_eq, beq_eq_false_iff_ne, ne_eq] at *; omega)) | with_reducible refine br (fun _ => ?_) (fun _ => ?_) | with_reducible refine ⟨rfl, ?_⟩ | with_reducible refine ARound.succ ?_))
  exact leaf (by simp) (.bool _)

theorem cmpK_any (a b : Int) : PCall Tryz.prog 45 [.int .u8 a, .int .u8 b] (.int .i64 (cmpI a b)) := by
  refine pcall_of (lits2 (.int _ _) (.int _ _)) (call45 rfl ?_)
  iterate 8 (all_goals (try conv => whnf); all_goals (try first | with_reducible refine brY (by assumption) ?_ | with_reducible refine brN (by assumption) ?_ | (with_reducible refine brT ?_ ?_; · (simp only [Bool.and_eq_true, Bool.not_eq_true', decide_eq_true_eq, decide_eq_false_iff_not, beq_iff_eq, beq_eq_false_iff_ne, ne_eq] at *; omega)) | with_reducible refine br (fun _ => ?_) (fun _ => ?_) | with_reducible refine ⟨rfl, ?_⟩ | with_reducible refine ARound.succ ?_ | with_reducible refine PCall.call (nanK _) ?_))
  all_goals (refine leaf ?_ (.int _ _); simp_all [cmpI])
  all_goals omega
theorem cmp64_any (a b : Int) : PCall Tryz.prog 46 [.int .i64 a, .int .i64 b] (.int .i64 (cmpI a b)) := by
  refine pcall_of (lits2 (.int _ _) (.int _ _)) (call46 rfl ?_)
  iterate 8 (all_goals (try conv => whnf); all_goals (try first | with_reducible refine brY (by assumption) ?_ | with_reducible refine brN (by assumption) ?_ | (with_reducible refine brT ?_ ?_; · (simp only [Bool.and_eq_true, Bool.not_eq_true', decide_eq_true_eq, decide_eq_false_iff_not, beq_iff_eq, beq_eq_false_iff_ne, ne_eq] at *; omega)) | with_reducible refine br (fun _ => ?_) (fun _ => ?_) | with_reducible refine ⟨rfl, ?_⟩ | with_reducible refine ARound.succ ?_ | with_reducible refine PCall.call (nan64 _) ?_))
  all_goals (refine leaf ?_ (.int _ _); simp_all [cmpI])
  all_goals omega
theorem cmpInt_any (a b : Int) : PCall Tryz.prog 48 [.int .i64 a, .int .i64 b] (.int .i64 (cmpI a b)) := by
  refine pcall_of (lits2 (.int _ _) (.int _ _)) (call48 rfl ?_)
  iterate 8 (all_goals (try conv => whnf); all_goals (try first | with_reducible refine brY (by assumption) ?_ | with_reducible refine brN (by assumption) ?_ | (with_reducible refine brT ?_ ?_; · (simp only [Bool.and_eq_true, Bool.not_eq_true', decide_eq_true_eq, decide_eq_false_iff_not, beq_iff_eq, beq_eq_false_iff_ne, ne_eq] at *; omega)) | with_reducible refine br (fun _ => ?_) (fun _ => ?_) | with_reducible refine ⟨rfl, ?_⟩ | with_reducible refine ARound.succ ?_ | with_reducible refine PCall.call (nanI _) ?_))
  all_goals (refine leaf ?_ (.int _ _); simp_all [cmpI])
  all_goals omega
theorem cmpS_any (a b : List UInt8) : PCall Tryz.prog 47 [.str a, .str b] (.int .i64 (cmpS a b)) := by
  refine pcall_of (lits2 (.str _) (.str _)) (call47 rfl ?_)
  iterate 8 (all_goals (try conv => whnf); all_goals (try first | with_reducible refine brY (by assumption) ?_ | with_reducible refine brN (by assumption) ?_ | (with_reducible refine brT ?_ ?_; · (simp only [Bool.and_eq_true, Bool.not_eq_true', decide_eq_true_eq, decide_eq_false_iff_not, beq_iff_eq, beq_eq_false_iff_ne, ne_eq] at *; omega)) | with_reducible refine br (fun _ => ?_) (fun _ => ?_) | with_reducible refine ⟨rfl, ?_⟩ | with_reducible refine ARound.succ ?_ | with_reducible refine PCall.call (nanS _) ?_))
  all_goals (refine leaf ?_ (.int _ _); simp_all [cmpS, strLess])

theorem hard3 {A : Heap} {i g : Nat} {cap : Option Nat} {sk : Sk} {a b c : Int} (ho : A.obj i = some (.vec g 1 [.int .i64 a, .int .i64 b, .int .i64 c] sk)) :
    Hard A (.sl i g 1 0 3 cap) (.lst 1 3 fun i => .int .i64 (List.getD [a, b, c] i 0)) :=
  hard_all ho ⟨rfl, .int _ _, rfl, .int _ _, rfl, .int _ _, trivial⟩
theorem or_any (a b c : Int) : PCall Tryz.prog 44 [.lst 1 3 fun i => .int .i64 (List.getD [a, b, c] i 0)] (.int .i64 (or3 a b c)) := by
  refine pcall_of (lits1 (.lst _ _ _)) (call44 rfl ?_)
  iterate 14 (all_goals (try conv => whnf); all_goals (try first | with_reducible refine brY (by assumption) ?_ | with_reducible refine brN (by assumption) ?_ | (with_reducible refine brT ?_ ?_; · (simp only [Bool.and_eq_true, Bool.not_eq_true', decide_eq_true_eq, decide_eq_false_iff_not, beq_iff_eq, beq_eq_false_iff_ne, ne_eq] at *; omega)) | with_reducible refine br (fun _ => ?_) (fun _ => ?_) | with_reducible refine ⟨rfl, ?_⟩ | with_reducible refine ARound.succ ?_ | with_reducible refine loop_rounds 5 ?_))
  all_goals (refine leaf ?_ (.int _ _); simp_all [or3, IntKind.wrap_i64])

@[reducible] def lstV (l : List V) : SV := .lst 3 l.length fun i => (l.getD i vnull).sv

theorem cmpL_end {xs ys : List V} {k : Nat} (ha : k ≤ xs.length) (hb : k ≤ ys.length) (hk : k = xs.length ∨ k = ys.length) (he : cmpL xs ys = cmpL (xs.drop k) (ys.drop k)) : cmpL xs ys = cmpI xs.length ys.length := by
  rw [he]
  have key : cmpL (xs.drop k) (ys.drop k) = cmpI (xs.drop k).length (ys.drop k).length := by
    rcases hk with h | h
    · rw [List.drop_eq_nil_of_le (by omega)]; cases ys.drop k <;> rfl
    · rw [show ys.drop k = [] from List.drop_eq_nil_of_le (by omega)]; cases xs.drop k <;> rfl
  rw [key, List.length_drop, List.length_drop]
  simp only [cmpI]
  split <;> split <;> (try split) <;> omega
theorem cmpL_step {xs ys : List V} {k : Nat} (ha : k < xs.length) (hb : k < ys.length) : cmpL (xs.drop k) (ys.drop k) = if cmpV (xs.getD k vnull) (ys.getD k vnull) ≠ 0 then cmpV (xs.getD k vnull) (ys.getD k vnull) else cmpL (xs.drop (k + 1)) (ys.drop (k + 1)) := by
  rw [List.drop_eq_getElem_cons ha, List.drop_eq_getElem_cons hb, List.getD_eq_getElem?_getD, List.getD_eq_getElem?_getD, List.getElem?_eq_getElem ha, List.getElem?_eq_getElem hb]
  rfl

structure CmpS (xs ys : List V) where
  k : Nat
  ha : k ≤ xs.length
  hb : k ≤ ys.length
  he : cmpL xs ys = cmpL (xs.drop k) (ys.drop k)

theorem compare_any (xs ys : List V) (hx : xs.length ≤ 4611686018427387904) : PCall Tryz.prog 26 [lstV xs, lstV ys] (.int .i64 (cmpL xs ys)) := by
  refine pcall_of (lits2 (.lst _ _ _) (.lst _ _ _)) (call26 rfl ?_)
  iterate 1 (all_goals (try conv => whnf); all_goals (try first | with_reducible refine brY (by assumption) ?_ | with_reducible refine brN (by assumption) ?_ | (with_reducible refine brT ?_ ?_; · (simp only [Bool.and_eq_true, Bool.not_eq_true', decide_eq_true_eq, decide_eq_false_iff_not, beq_iff_eq, beq_eq_false_iff_ne, ne_eq] at *; omega)) | with_reducible refine br (fun _ => ?_) (fun _ => ?_) | with_reducible refine ⟨rfl, ?_⟩ | with_reducible refine ARound.succ ?_))
  refine loop_ind (σ := CmpS xs ys) (fun s => [(0, lstV xs), (1, lstV ys), (4, SV.int IntKind.i64 0), (11, SV.int IntKind.i64 (if (ys.length : Int) < xs.length then ys.length else xs.length)), (12, SV.int IntKind.i64 s.k)]) (fun _ => ⟨0, []⟩) (fun s => xs.length - s.k) ?_ ⟨0, by omega, by omega, rfl⟩
  rintro ⟨k, ha, hb, he⟩
  dsimp only
  iterate 40 (all_goals (try conv => whnf); all_goals (try first | with_reducible refine brY (by assumption) ?_ | with_reducible refine brN (by assumption) ?_ | (with_reducible refine brT ?_ ?_; · (simp only [Bool.and_eq_true, Bool.not_eq_true', decide_eq_true_eq, decide_eq_false_iff_not, beq_iff_eq, beq_eq_false_iff_ne, ne_eq] at *; omega)) | with_reducible refine br (fun _ => ?_) (fun _ => ?_) | with_reducible refine ⟨rfl, ?_⟩ | with_reducible refine ARound.succ ?_ | with_reducible refine PCall.call (cmpK_any _ _) ?_ | with_reducible refine PCall.call (cmp64_any _ _) ?_ | with_reducible refine PCall.call (cmpS_any _ _) ?_ | with_reducible refine PCall.call (cmpInt_any _ _) ?_ | with_reducible refine PCall.call (or_any _ _ _) ?_ | (with_reducible refine ACall.frz (fun i => Nat.beq i 0) (.cons (hard3 rfl) .nil) ?_)))
  all_goals rename_i h
  all_goals simp only [Int.toNat_natCast, bne_iff_ne, ne_eq, decide_eq_true_eq, decide_eq_false_iff_not, bne_eq_false_iff_eq] at *
  · refine leaf ?_ (.int _ _)
    rw [he, cmpL_step (by omega) (by omega), if_pos (by exact h)]
    rfl
  · refine ⟨⟨k + 1, by omega, by omega, ?_⟩, by dsimp only; omega, ?_, by trivial⟩
    · rw [he, cmpL_step (by omega) (by omega), if_neg (by intro hh; exact hh h)]
    · rw [IntKind.wrap_i64]
      have e : ((k : Int) + 1 + 9223372036854775808) % 18446744073709551616 - 9223372036854775808 = ((k + 1 : Nat) : Int) := by omega
      rw [e]
  · refine leaf ?_ (.int _ _)
    rw [cmpL_end ha hb (by omega) he]
end Go.Proofs.YtojponagjbobaaaGreatDoor
namespace Go.Proofs.YtojponagjbobaaaGreatDoor
open Ab Go.RowKit
set_option maxRecDepth 100000
set_option linter.unusedSimpArgs false
set_option maxHeartbeats 4000000

@[reducible] def lstK (l : List Int) : SV := .lst 1 l.length fun i => .int .u8 (l.getD i 0)
@[reducible] def K2 (p : Int × Int) : SV := .tup [.int .u8 p.1, .int .i64 p.2]
theorem K2_lit (p : Int × Int) : LitV (K2 p) := lit2 (.int _ _) (.int _ _)

theorem gives_bad (op : Int) (ks : List Int) (h : takes op = 0 ∨ (ks.length : Int) ≠ takes op) : PCall Tryz.prog 8 [.int .u8 op, lstK ks] (K2 (givesI op ks)) := by
  refine pcall_of (lits2 (.int _ _) (.lst _ _ _)) (call8 rfl ?_)
  have e : givesI op ks = (0, 2) := by unfold givesI; rw [if_pos h]
  rw [e]
  iterate 8 (all_goals (try conv => whnf); all_goals (try first | with_reducible refine brY (by assumption) ?_ | with_reducible refine brN (by assumption) ?_ | (with_reducible refine brT ?_ ?_; · (simp only [Bool.and_eq_true, Bool.not_eq_true', decide_eq_true_eq, decide_eq_false_iff_not, beq_iff_eq, beq_eq_false_iff_ne, ne_eq] at *; omega)) | with_reducible refine br (fun _ => ?_) (fun _ => ?_) | with_reducible refine ⟨rfl, ?_⟩ | with_reducible refine ARound.succ ?_ | with_reducible refine PCall.call (takes_any _) ?_))
  · exact leaf rfl (K2_lit _)
  · exact leaf rfl (K2_lit _)
  · exfalso
    simp only [beq_iff_eq, beq_eq_false_iff_ne, cond_false, bne_eq_false_iff_eq, ne_eq] at *
    omega

theorem takes1 {op : Int} (h : takes op = 1) : op = 17 ∨ op = 18 ∨ op = 19 ∨ op = 20 := by
  unfold takes at h
  split at h
  · omega
  · split at h <;> omega
theorem takes2 {op : Int} (h : takes op = 2) : op = 3 ∨ op = 4 ∨ op = 5 ∨ op = 6 ∨ op = 7 ∨ op = 8 ∨ op = 9 ∨ op = 10 ∨ op = 11 ∨ op = 12 ∨ op = 13 ∨ op = 14 ∨ op = 15 ∨ op = 16 := by
  unfold takes at h
  split at h
  · omega
  · split at h <;> omega
@[reducible] def oneK (a : Int) : SV := .lst 1 1 fun i => .int .u8 (List.getD [a] i 0)
@[reducible] def twoK (a b : Int) : SV := .lst 1 2 fun i => .int .u8 (List.getD [a, b] i 0)

theorem gives1 (op a : Int) (h : takes op = 1) : PCall Tryz.prog 8 [.int .u8 op, oneK a] (K2 (givesI op [a])) := by
  refine pcall_of (lits2 (.int _ _) (.lst _ _ _)) (call8 rfl ?_)
  rcases takes1 h with rfl | rfl | rfl | rfl
  all_goals iterate 30 (all_goals (try conv => whnf); all_goals (try first | with_reducible refine brY (by assumption) ?_ | with_reducible refine brN (by assumption) ?_ | (with_reducible refine brT ?_ ?_; · (simp only [Bool.and_eq_true, Bool.not_eq_true', decide_eq_true_eq, decide_eq_false_iff_not, beq_iff_eq, beq_eq_false_iff_ne, ne_eq] at *; omega)) | with_reducible refine br (fun _ => ?_) (fun _ => ?_) | with_reducible refine ⟨rfl, ?_⟩ | with_reducible refine ARound.succ ?_ | with_reducible refine PCall.call (takes_any _) ?_ | (with_reducible refine call34 rfl ?_) | with_reducible refine loop_rounds 5 ?_))
  all_goals (refine leaf ?_ (K2_lit _); simp_all [givesI, takes, allK, IntKind.wrap_i64])
  all_goals (rw [if_neg (by omega)]; exact ⟨rfl, rfl⟩)

theorem gives2 (op a b : Int) (h : takes op = 2) : PCall Tryz.prog 8 [.int .u8 op, twoK a b] (K2 (givesI op [a, b])) := by
  refine pcall_of (lits2 (.int _ _) (.lst _ _ _)) (call8 rfl ?_)
  rcases takes2 h with rfl | rfl | rfl | rfl | rfl | rfl | rfl | rfl | rfl | rfl | rfl | rfl | rfl | rfl
  all_goals iterate 44 (all_goals (try conv => whnf); all_goals (try first | with_reducible refine brY (by assumption) ?_ | with_reducible refine brN (by assumption) ?_ | (with_reducible refine brT ?_ ?_; · (simp only [Bool.and_eq_true, Bool.not_eq_true', decide_eq_true_eq, decide_eq_false_iff_not, beq_iff_eq, beq_eq_false_iff_ne, ne_eq] at *; omega)) | with_reducible refine br (fun _ => ?_) (fun _ => ?_) | with_reducible refine ⟨rfl, ?_⟩ | with_reducible refine ARound.succ ?_ | with_reducible refine PCall.call (takes_any _) ?_ | (with_reducible refine call34 rfl ?_) | with_reducible refine loop_rounds 5 ?_))
  all_goals (refine leaf ?_ (K2_lit _); simp_all [givesI, takes, allK, IntKind.wrap_i64])
  all_goals (constructor <;> (repeat' split) <;> first | rfl | omega)
end Go.Proofs.YtojponagjbobaaaGreatDoor
namespace Go.Proofs.YtojponagjbobaaaGreatDoor
open Ab Go.RowKit

/-- The product of x and of y's bits from the i-th on. -/
def upTo (x y i : Nat) : Nat := x * (y / 2 ^ i)
theorem upTo_step (x y i : Nat) : upTo x y i = 2 * upTo x y (i + 1) + (if y / 2 ^ i % 2 = 1 then x else 0) := by
  unfold upTo
  have h1 : y / 2 ^ (i + 1) = y / 2 ^ i / 2 := by rw [Nat.pow_succ, Nat.div_div_eq_div_mul]
  rw [h1]
  generalize y / 2 ^ i = q
  rcases Nat.mod_two_eq_zero_or_one q with h | h
  · rw [if_neg (by omega)]
    have hq : q = 2 * (q / 2) := by omega
    conv => lhs; rw [hq]
    rw [Nat.mul_left_comm, Nat.add_zero]
  · rw [if_pos h]
    have hq : q = 2 * (q / 2) + 1 := by omega
    conv => lhs; rw [hq]
    rw [Nat.mul_add, Nat.mul_one, Nat.mul_left_comm]
theorem upTo_zero (x y : Nat) : upTo x y 0 = x * y := by unfold upTo; rw [Nat.pow_zero, Nat.div_one]
theorem upTo_top {x y : Nat} (hy : y < 18446744073709551616) : upTo x y 64 = 0 := by
  unfold upTo
  rw [Nat.div_eq_of_lt (by simpa using hy), Nat.mul_zero]
theorem upTo_le {x y : Nat} (hx : x ≤ 9223372036854775808) (hy : y ≤ 9223372036854775808) (i : Nat) : upTo x y i ≤ 85070591730234615865843651857942052864 := by
  unfold upTo
  have h1 : y / 2 ^ i ≤ 9223372036854775808 := Nat.le_trans (Nat.div_le_self _ _) hy
  exact Nat.le_trans (Nat.mul_le_mul hx h1) (by decide)
theorem dbl (P b : Nat) : (2 * P + b) / 18446744073709551616 = 2 * (P / 18446744073709551616) + P % 18446744073709551616 / 9223372036854775808 + (P % 18446744073709551616 * 2 % 18446744073709551616 + b) / 18446744073709551616 ∧
    (2 * P + b) % 18446744073709551616 = (P % 18446744073709551616 * 2 % 18446744073709551616 + b) % 18446744073709551616 := by omega
theorem or_add {a b : Nat} (h : b < 2) : (2 * a) ||| b = 2 * a + b := by
  have := Nat.two_pow_add_eq_or_of_lt (i := 1) (b := b) (by simpa using h) a
  simpa using this.symm
theorem or_hi {H L : Nat} (hH : 2 * H < 18446744073709551616) (hL : L < 18446744073709551616) :
    bitsI .or .u64 (IntKind.u64.wrap ((H : Int) * 2)) (Int.fdiv (L : Int) 9223372036854775808) = ((2 * H + L / 9223372036854775808 : Nat) : Int) := by
  have e1 : IntKind.u64.wrap ((H : Int) * 2) = ((2 * H : Nat) : Int) := by rw [IntKind.wrap_u64]; omega
  have e2 : Int.fdiv (L : Int) 9223372036854775808 = ((L / 9223372036854775808 : Nat) : Int) := by
    rw [Int.fdiv_eq_ediv_of_nonneg _ (by decide)]
    omega
  rw [e1, e2]
  have hb : L / 9223372036854775808 < 2 := by omega
  unfold bitsI
  dsimp only
  have e3 : (BitVec.ofInt IntKind.u64.bits ((2 * H : Nat) : Int) ||| BitVec.ofInt IntKind.u64.bits ((L / 9223372036854775808 : Nat) : Int)).toNat = 2 * H + L / 9223372036854775808 := by
    rw [BitVec.toNat_or, BitVec.ofInt_natCast, BitVec.ofInt_natCast, BitVec.toNat_ofNat, BitVec.toNat_ofNat]
    rw [show (2 : Nat) ^ IntKind.u64.bits = 18446744073709551616 from rfl, Nat.mod_eq_of_lt hH, Nat.mod_eq_of_lt (by omega), or_add hb]
  rw [e3, IntKind.wrap_u64]
  omega
theorem bit_and (q : Nat) (hq : q < 18446744073709551616) : bitsI .and .u64 (q : Int) 1 = ((q % 2 : Nat) : Int) := by
  unfold bitsI
  dsimp only
  have e3 : (BitVec.ofInt IntKind.u64.bits (q : Int) &&& BitVec.ofInt IntKind.u64.bits 1).toNat = q % 2 := by
    rw [show (1 : Int) = ((1 : Nat) : Int) from rfl, BitVec.toNat_and, BitVec.ofInt_natCast, BitVec.ofInt_natCast, BitVec.toNat_ofNat, BitVec.toNat_ofNat]
    rw [show (2 : Nat) ^ IntKind.u64.bits = 18446744073709551616 from rfl, Nat.mod_eq_of_lt hq, Nat.mod_eq_of_lt (by decide), Nat.and_one_is_mod]
  rw [e3, IntKind.wrap_u64]
  omega
/-- The whole number that a wide one is. -/
def fitsN (neg : Bool) (H L : Nat) : Int × Bool :=
  if H ≠ 0 then (0, false) else if L < 9223372036854775808 then ((if neg then -(L : Int) else L), true) else (-9223372036854775808, neg && L == 9223372036854775808)
theorem natAbs_mul' (a b : Int) : (a * b).natAbs = a.natAbs * b.natAbs := Int.natAbs_mul a b
theorem mul_fits {a b : Int} (ha : -9223372036854775808 ≤ a) (ha' : a ≤ 9223372036854775807) (hb : -9223372036854775808 ≤ b) (hb' : b ≤ 9223372036854775807) :
    (fitsN (decide (a < 0) != decide (b < 0)) (a.natAbs * b.natAbs / 18446744073709551616) (a.natAbs * b.natAbs % 18446744073709551616)).2 = inI (a * b) ∧
    (inI (a * b) = true → (fitsN (decide (a < 0) != decide (b < 0)) (a.natAbs * b.natAbs / 18446744073709551616) (a.natAbs * b.natAbs % 18446744073709551616)).1 = a * b) := by
  have hm := Int.natAbs_mul a b
  have hs : (decide (a < 0) != decide (b < 0)) = true → a * b ≤ 0 := by
    intro h
    by_cases h1 : a < 0 <;> by_cases h2 : b < 0
    · simp [h1, h2] at h
    · exact Int.mul_nonpos_of_nonpos_of_nonneg (by omega) (by omega)
    · exact Int.mul_nonpos_of_nonneg_of_nonpos (by omega) (by omega)
    · simp [h1, h2] at h
  have hs' : (decide (a < 0) != decide (b < 0)) = false → 0 ≤ a * b := by
    intro h
    by_cases h1 : a < 0 <;> by_cases h2 : b < 0
    · exact Int.mul_nonneg_of_nonpos_of_nonpos (by omega) (by omega)
    · simp [h1, h2] at h
    · simp [h1, h2] at h
    · exact Int.mul_nonneg (by omega) (by omega)
  rw [← hm]
  generalize a * b = p at *
  cases hn : (decide (a < 0) != decide (b < 0))
  · have hp := hs' hn
    unfold fitsN
    by_cases h0 : p.natAbs / 18446744073709551616 ≠ 0
    · rw [if_pos h0]
      have : inI p = false := inI_not.2 (by omega)
      rw [this]; exact ⟨rfl, fun h => by cases h⟩
    · rw [if_neg h0]
      by_cases h1 : p.natAbs % 18446744073709551616 < 9223372036854775808
      · rw [if_pos h1]
        have : inI p = true := inI_iff.2 (by omega)
        rw [this]
        refine ⟨rfl, fun _ => ?_⟩
        show ((p.natAbs % 18446744073709551616 : Nat) : Int) = p
        omega
      · rw [if_neg h1]
        have : inI p = false := inI_not.2 (by omega)
        rw [this]; exact ⟨rfl, fun h => by cases h⟩
  · have hp := hs hn
    unfold fitsN
    by_cases h0 : p.natAbs / 18446744073709551616 ≠ 0
    · rw [if_pos h0]
      have : inI p = false := inI_not.2 (by omega)
      rw [this]; exact ⟨rfl, fun h => by cases h⟩
    · rw [if_neg h0]
      by_cases h1 : p.natAbs % 18446744073709551616 < 9223372036854775808
      · rw [if_pos h1]
        have : inI p = true := inI_iff.2 (by omega)
        rw [this]
        refine ⟨rfl, fun _ => ?_⟩
        show -((p.natAbs % 18446744073709551616 : Nat) : Int) = p
        omega
      · rw [if_neg h1]
        by_cases h2 : p.natAbs % 18446744073709551616 = 9223372036854775808
        · have : inI p = true := inI_iff.2 (by omega)
          rw [this, h2]
          refine ⟨rfl, fun _ => ?_⟩
          show (-9223372036854775808 : Int) = p
          omega
        · have : inI p = false := inI_not.2 (by omega)
          rw [this]
          refine ⟨?_, fun h => by cases h⟩
          show (true && (p.natAbs % 18446744073709551616 == 9223372036854775808)) = false
          simp [h2]
end Go.Proofs.YtojponagjbobaaaGreatDoor
namespace Go.Proofs.YtojponagjbobaaaGreatDoor
open Ab Go.RowKit
set_option maxRecDepth 100000
set_option linter.unusedVariables false
set_option linter.unusedSimpArgs false
set_option maxHeartbeats 4000000
set_option pp.maxSteps 3000

theorem refTakes_any (op : Int) : PCall Tryz.prog 11 [.int .u8 op] (.int .i64 (takes op)) := by
  refine pcall_of (lits1 (.int _ _)) (call11 rfl ?_)
  iterate 24 (all_goals (try conv => whnf); all_goals (try with_reducible refine br (fun _ => ?_) (fun _ => ?_)))
  all_goals (refine leaf ?_ (.int _ _); simp only [decide_eq_true_eq, decide_eq_false_iff_not, beq_iff_eq, beq_eq_false_iff_ne, ne_eq] at *; congr 1; unfold takes; split <;> first | omega | (split <;> omega))
theorem refTruth_any (b : Bool) : PCall Tryz.prog 28 [.bool b] (vbool b).sv := by
  refine pcall_of (lits1 (.bool b)) (call28 rfl ?_)
  cases b
  · conv => whnf
    exact leaf rfl (V.lit _)
  · conv => whnf
    exact leaf rfl (V.lit _)
theorem refTrue_any (v : V) : PCall Tryz.prog 16 [v.sv] (.bool (isT v)) := by
  refine pcall_of (lits1 (V.lit _)) (call16 rfl ?_)
  iterate 4 (all_goals (try conv => whnf); all_goals (try first | with_reducible refine brY (by assumption) ?_ | with_reducible refine brN (by assumption) ?_ | (with_reducible refine brT ?_ ?_; · (simp only [Bool.and_eq_true, Bool.not_eq_true', decide_eq_true_eq, decide_eq_false_iff_not, beq_iff_eq, beq_eq_false_iff_ne, ne_eq] at *; omega)) | with_reducible refine br (fun _ => ?_) (fun _ => ?_) | with_reducible refine ⟨rfl, ?_⟩ | with_reducible refine ARound.succ ?_ | with_reducible refine PCall.call (refTruth_any _) ?_))
  exact leaf rfl (.bool _)
theorem refNumber_any (n : Int) : PCall Tryz.prog 31 [.int .i64 n] (vint n).sv := by
  refine pcall_of (lits1 (.int _ _)) (call31 rfl ?_)
  iterate 4 (all_goals (try conv => whnf); all_goals (try first | with_reducible refine brY (by assumption) ?_ | with_reducible refine brN (by assumption) ?_ | (with_reducible refine brT ?_ ?_; · (simp only [Bool.and_eq_true, Bool.not_eq_true', decide_eq_true_eq, decide_eq_false_iff_not, beq_iff_eq, beq_eq_false_iff_ne, ne_eq] at *; omega)) | with_reducible refine br (fun _ => ?_) (fun _ => ?_) | with_reducible refine ⟨rfl, ?_⟩ | with_reducible refine ARound.succ ?_))
  exact leaf rfl (V.lit _)
theorem compared_any (op c : Int) : PCall Tryz.prog 32 [.int .u8 op, .int .i64 c] (.bool (holdsI op c)) := by
  refine pcall_of (lits2 (.int _ _) (.int _ _)) (call32 rfl ?_)
  iterate 12 (all_goals (try conv => whnf); all_goals (try with_reducible refine br (fun _ => ?_) (fun _ => ?_)))
  all_goals (refine leaf ?_ (.bool _); simp_all [holdsI])
/-- And, or. -/
def logicV (op : Int) (a b : V) : V := if eqV a (vbool (op == 16)) || eqV b (vbool (op == 16)) then vbool (op == 16) else if a.k == 0 || b.k == 0 then vnull else vbool (op == 15)
theorem logic_any (op : Int) (a b : V) : PCall Tryz.prog 29 [.int .u8 op, a.sv, b.sv] (logicV op a b).sv := by
  refine pcall_of (lits3 (.int _ _) (V.lit _) (V.lit _)) (call29 rfl ?_)
  iterate 16 (all_goals (try conv => whnf); all_goals (try first | with_reducible refine brY (by assumption) ?_ | with_reducible refine brN (by assumption) ?_ | (with_reducible refine brT ?_ ?_; · (simp only [Bool.and_eq_true, Bool.not_eq_true', decide_eq_true_eq, decide_eq_false_iff_not, beq_iff_eq, beq_eq_false_iff_ne, ne_eq] at *; omega)) | with_reducible refine br (fun _ => ?_) (fun _ => ?_) | with_reducible refine ⟨rfl, ?_⟩ | with_reducible refine ARound.succ ?_ | with_reducible refine PCall.call (refTruth_any _) ?_))
  all_goals refine leaf ?_ (V.lit _)
  all_goals unfold logicV
  all_goals cases h1 : eqV a (vbool (op == 16)) <;> cases h2 : eqV b (vbool (op == 16)) <;> simp only [eqV, eq3] at h1 h2 <;> simp_all [vnull]
theorem magnitude_any {n : Int} (h0 : -9223372036854775808 ≤ n) (h1 : n ≤ 9223372036854775807) : PCall Tryz.prog 42 [.int .i64 n] (.tup [.bool (decide (n < 0)), .int .u64 (n.natAbs : Nat)]) := by
  refine pcall_of (lits1 (.int _ _)) (call42 rfl ?_)
  iterate 8 (all_goals (try conv => whnf); all_goals (try first | with_reducible refine brY (by assumption) ?_ | with_reducible refine brN (by assumption) ?_ | (with_reducible refine brT ?_ ?_; · (simp only [Bool.and_eq_true, Bool.not_eq_true', decide_eq_true_eq, decide_eq_false_iff_not, beq_iff_eq, beq_eq_false_iff_ne, ne_eq] at *; omega)) | with_reducible refine br (fun _ => ?_) (fun _ => ?_) | with_reducible refine ⟨rfl, ?_⟩ | with_reducible refine ARound.succ ?_))
  all_goals refine leaf ?_ (lit2 (.bool _) (.int _ _))
  all_goals simp only [decide_eq_true_eq, decide_eq_false_iff_not] at *
  all_goals simp only [IntKind.wrap_u64, IntKind.wrap_i64]
  all_goals rw [SV.tup.injEq]
  all_goals simp only [List.cons.injEq, SV.int.injEq, SV.bool.injEq, and_true, true_and]
  · exact ⟨by rw [decide_eq_true (by assumption)], by omega⟩
  · exact ⟨by rw [decide_eq_false (by assumption)], by omega⟩
theorem refCheck_any (v : V) : PCall Tryz.prog 27 [v.sv] (.int .i64 (chk v)) := by
  obtain ⟨k, n, t⟩ := v
  refine pcall_of (lits1 (V.lit _)) (call27 rfl ?_)
  iterate 16 (all_goals (try conv => whnf); all_goals (try with_reducible refine br (fun _ => ?_) (fun _ => ?_)))
  all_goals (refine leaf ?_ (.int _ _); simp_all [chk, okV])
  all_goals omega
theorem one_any (v w : V) : PCall Tryz.prog 51 [v.sv, w.sv] (.int .i64 (cmpV v w)) := by
  refine pcall_of (lits2 (V.lit _) (V.lit _)) (call51 rfl ?_)
  iterate 40 (all_goals (try conv => whnf); all_goals (try first | with_reducible refine brY (by assumption) ?_ | with_reducible refine brN (by assumption) ?_ | (with_reducible refine brT ?_ ?_; · (simp only [Bool.and_eq_true, Bool.not_eq_true', decide_eq_true_eq, decide_eq_false_iff_not, beq_iff_eq, beq_eq_false_iff_ne, ne_eq] at *; omega)) | with_reducible refine br (fun _ => ?_) (fun _ => ?_) | with_reducible refine ⟨rfl, ?_⟩ | with_reducible refine ARound.succ ?_))
  all_goals refine leaf ?_ (.int _ _)
  all_goals unfold strLess at *
  all_goals simp only [decide_eq_true_eq, decide_eq_false_iff_not, beq_iff_eq, beq_eq_false_iff_ne, ne_eq, Bool.and_eq_true, Bool.and_eq_false_iff] at *
  all_goals congr 1
  all_goals symm
  all_goals unfold cmpV or3 cmpI cmpS
  all_goals first
    | (simp_all; done)
    | (simp_all; omega)
    | (have h1 : w.k < v.k := by omega
       rw [if_neg (by omega), if_pos h1]; rfl)
    | (have h1 : v.k = w.k := by assumption
       have h2 : w.n < v.n := by omega
       rw [if_neg (by omega), if_neg (by omega), if_neg (by omega), if_pos h2]; rfl)
structure CmpR (xs ys : List V) where
  k : Nat
  ha : k ≤ xs.length
  hb : k ≤ ys.length
  he : cmpL xs ys = cmpL (xs.drop k) (ys.drop k)
theorem w64add1 {n : Int} (h0 : -9223372036854775808 ≤ n) (h1 : n < 9223372036854775807) : IntKind.i64.wrap (n + 1) = n + 1 := by rw [IntKind.wrap_i64]; omega
theorem refCompare_any {xs ys : List V} (hx : xs.length ≤ 4611686018427387904) : PCall Tryz.prog 33 [lstV xs, lstV ys] (.int .i64 (cmpL xs ys)) := by
  refine pcall_of (lits2 (.lst _ _ _) (.lst _ _ _)) (call33 rfl ?_)
  iterate 1 (all_goals (try conv => whnf); all_goals (try first | with_reducible refine brY (by assumption) ?_ | with_reducible refine brN (by assumption) ?_ | (with_reducible refine brT ?_ ?_; · (simp only [Bool.and_eq_true, Bool.not_eq_true', decide_eq_true_eq, decide_eq_false_iff_not, beq_iff_eq, beq_eq_false_iff_ne, ne_eq] at *; omega)) | with_reducible refine br (fun _ => ?_) (fun _ => ?_) | with_reducible refine ⟨rfl, ?_⟩ | with_reducible refine ARound.succ ?_))
  refine loop_ind (σ := CmpR xs ys) (fun s => [(0, lstV xs), (1, lstV ys), (4, SV.int IntKind.i64 0), (5, SV.int IntKind.i64 s.k)]) (fun _ => ⟨0, []⟩) (fun s => xs.length - s.k) ?_ ⟨0, by omega, by omega, rfl⟩
  rintro ⟨k, ha, hb, he⟩
  dsimp only
  have et := Int.toNat_natCast k
  have co : PCall Tryz.prog 51 [(xs.getD (k : Int).toNat vnull).sv, (ys.getD (k : Int).toNat vnull).sv] (.int .i64 (cmpV (xs.getD k vnull) (ys.getD k vnull))) := by rw [et]; exact one_any _ _
  iterate 30 (all_goals (try conv => whnf); all_goals (try first | with_reducible refine brY (by assumption) ?_ | with_reducible refine brN (by assumption) ?_ | (with_reducible refine brT ?_ ?_; · (simp only [Bool.and_eq_true, Bool.not_eq_true', decide_eq_true_eq, decide_eq_false_iff_not, beq_iff_eq, beq_eq_false_iff_ne, ne_eq] at *; omega)) | with_reducible refine br (fun _ => ?_) (fun _ => ?_) | with_reducible refine ⟨rfl, ?_⟩ | with_reducible refine ARound.succ ?_ | with_reducible refine PCall.call (co) ?_))
  all_goals simp only [Int.toNat_natCast, bne_iff_ne, ne_eq, decide_eq_true_eq, decide_eq_false_iff_not, bne_eq_false_iff_eq] at *
  · refine leaf ?_ (.int _ _)
    rw [he, cmpL_step (by omega) (by omega), if_pos (by assumption)]
  · refine ⟨⟨k + 1, by omega, by omega, ?_⟩, by dsimp only; omega, by rw [w64add1 (by omega) (by omega)]; rfl, by trivial⟩
    rw [he, cmpL_step (by omega) (by omega), if_neg (by intro h; exact h (by assumption))]
  all_goals
    refine leaf ?_ (.int _ _)
    rw [cmpL_end ha hb (by omega) he]
    unfold cmpI
    first
      | (rw [if_pos (by omega)]; done)
      | (rw [if_neg (by omega), if_pos (by omega)]; done)
      | (rw [if_neg (by omega), if_neg (by omega)]; done)
theorem refGives_bad (op : Int) (ks : List Int) (h : takes op = 0 ∨ (ks.length : Int) ≠ takes op) : PCall Tryz.prog 9 [.int .u8 op, lstK ks] (K2 (givesI op ks)) := by
  refine pcall_of (lits2 (.int _ _) (.lst _ _ _)) (call9 rfl ?_)
  have e : givesI op ks = (0, 2) := by unfold givesI; rw [if_pos h]
  rw [e]
  iterate 8 (all_goals (try conv => whnf); all_goals (try first | with_reducible refine brY (by assumption) ?_ | with_reducible refine brN (by assumption) ?_ | (with_reducible refine brT ?_ ?_; · (simp only [Bool.and_eq_true, Bool.not_eq_true', decide_eq_true_eq, decide_eq_false_iff_not, beq_iff_eq, beq_eq_false_iff_ne, ne_eq] at *; omega)) | with_reducible refine br (fun _ => ?_) (fun _ => ?_) | with_reducible refine ⟨rfl, ?_⟩ | with_reducible refine ARound.succ ?_ | with_reducible refine PCall.call (refTakes_any _) ?_))
  · exact leaf rfl (K2_lit _)
  · exact leaf rfl (K2_lit _)
  all_goals exfalso
  all_goals simp only [beq_iff_eq, beq_eq_false_iff_ne, cond_false, bne_eq_false_iff_eq, ne_eq] at *
  all_goals omega
theorem refGives1 (op a : Int) (h : takes op = 1) : PCall Tryz.prog 9 [.int .u8 op, oneK a] (K2 (givesI op [a])) := by
  refine pcall_of (lits2 (.int _ _) (.lst _ _ _)) (call9 rfl ?_)
  rcases takes1 h with rfl | rfl | rfl | rfl
  all_goals iterate 40 (all_goals (try conv => whnf); all_goals (try first | with_reducible refine brY (by assumption) ?_ | with_reducible refine brN (by assumption) ?_ | (with_reducible refine brT ?_ ?_; · (simp only [Bool.and_eq_true, Bool.not_eq_true', decide_eq_true_eq, decide_eq_false_iff_not, beq_iff_eq, beq_eq_false_iff_ne, ne_eq] at *; omega)) | with_reducible refine br (fun _ => ?_) (fun _ => ?_) | with_reducible refine ⟨rfl, ?_⟩ | with_reducible refine ARound.succ ?_ | with_reducible refine PCall.call (refTakes_any _) ?_ | with_reducible refine loop_rounds 5 ?_))
  all_goals (refine leaf ?_ (K2_lit _); simp_all [givesI, takes, allK, IntKind.wrap_i64])
  all_goals (first | done | (rw [if_neg (by omega)]; exact ⟨rfl, rfl⟩))
theorem refGives2 (op a b : Int) (ha : 0 ≤ a) (hb : 0 ≤ b) (h : takes op = 2) : PCall Tryz.prog 9 [.int .u8 op, twoK a b] (K2 (givesI op [a, b])) := by
  refine pcall_of (lits2 (.int _ _) (.lst _ _ _)) (call9 rfl ?_)
  rcases takes2 h with rfl | rfl | rfl | rfl | rfl | rfl | rfl | rfl | rfl | rfl | rfl | rfl | rfl | rfl
  all_goals iterate 60 (all_goals (try conv => whnf); all_goals (try first | with_reducible refine brY (by assumption) ?_ | with_reducible refine brN (by assumption) ?_ | (with_reducible refine brT ?_ ?_; · (simp only [Bool.and_eq_true, Bool.not_eq_true', decide_eq_true_eq, decide_eq_false_iff_not, beq_iff_eq, beq_eq_false_iff_ne, ne_eq] at *; omega)) | with_reducible refine br (fun _ => ?_) (fun _ => ?_) | with_reducible refine ⟨rfl, ?_⟩ | with_reducible refine ARound.succ ?_ | with_reducible refine PCall.call (refTakes_any _) ?_ | with_reducible refine loop_rounds 5 ?_))
  all_goals (refine leaf ?_ (K2_lit _); simp_all [givesI, takes, allK, IntKind.wrap_i64])
  all_goals (constructor <;> (repeat' split) <;> first | rfl | omega)
end Go.Proofs.YtojponagjbobaaaGreatDoor
namespace Go.Proofs.YtojponagjbobaaaGreatDoor
open Ab Go.RowKit
set_option maxRecDepth 100000
set_option linter.unusedVariables false
set_option linter.unusedSimpArgs false
set_option maxHeartbeats 4000000
set_option pp.maxSteps 3000

@[reducible] def wideV (neg : Bool) (H L : Int) : SV := .agg [.bool neg, .int .u64 H, .int .u64 L]
theorem wide_lit {neg : Bool} {H L : Int} : LitV (wideV neg H L) := .agg (by simp only [List.mem_cons, List.not_mem_nil, or_false]; rintro _ (rfl | rfl | rfl) <;> constructor)
theorem fits_any {neg : Bool} {H L : Int} (h0 : 0 ≤ H) (l0 : 0 ≤ L) (hL : L < 18446744073709551616) : PCall Tryz.prog 49 [wideV neg H L] (.tup [.int .i64 (fitsN neg H.toNat L.toNat).1, .bool (fitsN neg H.toNat L.toNat).2]) := by
  refine pcall_of (lits1 wide_lit) (call49 rfl ?_)
  have lit : LitV (.tup [.int .i64 (fitsN neg H.toNat L.toNat).1, .bool (fitsN neg H.toNat L.toNat).2]) := lit2 (.int _ _) (.bool _)
  cases neg
  · iterate 14 (all_goals (try conv => whnf); all_goals (try first | with_reducible refine brY (by assumption) ?_ | with_reducible refine brN (by assumption) ?_ | (with_reducible refine brT ?_ ?_; · (simp only [Bool.and_eq_true, Bool.not_eq_true', decide_eq_true_eq, decide_eq_false_iff_not, beq_iff_eq, beq_eq_false_iff_ne, ne_eq] at *; omega)) | with_reducible refine br (fun _ => ?_) (fun _ => ?_) | with_reducible refine ⟨rfl, ?_⟩ | with_reducible refine ARound.succ ?_))
    all_goals refine leaf ?_ lit
    all_goals simp only [decide_eq_true_eq, decide_eq_false_iff_not, bne_iff_ne, beq_iff_eq, beq_eq_false_iff_ne, bne_eq_false_iff_eq, ne_eq] at *
    all_goals rw [SV.tup.injEq]
    all_goals simp only [List.cons.injEq, SV.int.injEq, SV.bool.injEq, and_true, true_and, IntKind.wrap_i64]
    all_goals unfold fitsN
    all_goals first
      | (rw [if_pos (by omega)]; exact ⟨rfl, rfl⟩)
      | (rw [if_neg (by omega), if_pos (by omega)]; refine ⟨?_, rfl⟩; simp; omega)
      | (rw [if_neg (by omega), if_neg (by omega)]; exact ⟨rfl, rfl⟩)
      | trace_state
  · iterate 14 (all_goals (try conv => whnf); all_goals (try first | with_reducible refine brY (by assumption) ?_ | with_reducible refine brN (by assumption) ?_ | (with_reducible refine brT ?_ ?_; · (simp only [Bool.and_eq_true, Bool.not_eq_true', decide_eq_true_eq, decide_eq_false_iff_not, beq_iff_eq, beq_eq_false_iff_ne, ne_eq] at *; omega)) | with_reducible refine br (fun _ => ?_) (fun _ => ?_) | with_reducible refine ⟨rfl, ?_⟩ | with_reducible refine ARound.succ ?_))
    all_goals refine leaf ?_ lit
    all_goals simp only [decide_eq_true_eq, decide_eq_false_iff_not, bne_iff_ne, beq_iff_eq, beq_eq_false_iff_ne, bne_eq_false_iff_eq, ne_eq] at *
    all_goals rw [SV.tup.injEq]
    all_goals simp only [List.cons.injEq, SV.int.injEq, SV.bool.injEq, and_true, true_and, IntKind.wrap_i64]
    all_goals unfold fitsN
    all_goals first
      | (rw [if_pos (by omega)]; exact ⟨rfl, rfl⟩)
      | (rw [if_neg (by omega), if_pos (by omega)]; refine ⟨?_, rfl⟩; simp; omega)
      | (rw [if_neg (by omega), if_neg (by omega)]; refine ⟨rfl, ?_⟩; simp only [Bool.true_and]; rw [Bool.eq_iff_iff]; simp; omega)
      | trace_state
/-- An operation of two whole numbers, as the document says it. -/
@[reducible] def two (p : Int × Int) : SV := .tup [.int .i64 p.1, .int .i64 p.2]
theorem two_lit {p : Int × Int} : LitV (two p) := lit2 (.int _ _) (.int _ _)
section
variable {a b : Int} (ha : -9223372036854775808 ≤ a) (ha' : a ≤ 9223372036854775807) (hb : -9223372036854775808 ≤ b) (hb' : b ≤ 9223372036854775807)
include ha ha' hb hb'
theorem counted3 : PCall Tryz.prog 30 [.int .u8 3, .int .i64 a, .int .i64 b] (two (numI 3 a b)) := by
  refine pcall_of (lits3 (.int _ _) (.int _ _) (.int _ _)) (call30 rfl ?_)
  iterate 16 (all_goals (try conv => whnf); all_goals (try first | with_reducible refine brY (by assumption) ?_ | with_reducible refine brN (by assumption) ?_ | (with_reducible refine brT ?_ ?_; · (simp only [Bool.and_eq_true, Bool.not_eq_true', decide_eq_true_eq, decide_eq_false_iff_not, beq_iff_eq, beq_eq_false_iff_ne, ne_eq] at *; omega)) | with_reducible refine br (fun _ => ?_) (fun _ => ?_) | with_reducible refine ⟨rfl, ?_⟩ | with_reducible refine ARound.succ ?_))
  all_goals refine leaf ?_ two_lit
  all_goals simp only [decide_eq_true_eq, decide_eq_false_iff_not, IntKind.wrap_i64] at *
  all_goals unfold numI
  all_goals rw [if_pos rfl]
  all_goals first
    | (exfalso; omega)
    | (rw [if_pos (inI_iff.2 (by omega))]; unfold two; congr 3; omega)
    | (rw [if_neg (by rw [inI_not.2 (by omega)]; decide)])
theorem counted4 : PCall Tryz.prog 30 [.int .u8 4, .int .i64 a, .int .i64 b] (two (numI 4 a b)) := by
  refine pcall_of (lits3 (.int _ _) (.int _ _) (.int _ _)) (call30 rfl ?_)
  iterate 16 (all_goals (try conv => whnf); all_goals (try first | with_reducible refine brY (by assumption) ?_ | with_reducible refine brN (by assumption) ?_ | (with_reducible refine brT ?_ ?_; · (simp only [Bool.and_eq_true, Bool.not_eq_true', decide_eq_true_eq, decide_eq_false_iff_not, beq_iff_eq, beq_eq_false_iff_ne, ne_eq] at *; omega)) | with_reducible refine br (fun _ => ?_) (fun _ => ?_) | with_reducible refine ⟨rfl, ?_⟩ | with_reducible refine ARound.succ ?_))
  all_goals refine leaf ?_ two_lit
  all_goals simp only [decide_eq_true_eq, decide_eq_false_iff_not, IntKind.wrap_i64] at *
  all_goals unfold numI
  all_goals rw [if_neg (by decide), if_pos (.inl rfl)]
  all_goals first
    | (exfalso; omega)
    | (rw [if_pos (inI_iff.2 (by omega))]; unfold two; congr 3; omega)
    | (rw [if_neg (by rw [inI_not.2 (by omega)]; decide)])
end
end Go.Proofs.YtojponagjbobaaaGreatDoor
namespace Go.Proofs.YtojponagjbobaaaGreatDoor
open Ab Go.RowKit
set_option maxRecDepth 100000
set_option linter.unusedVariables false
set_option linter.unusedSimpArgs false
set_option maxHeartbeats 4000000
set_option pp.maxSteps 3000

/-- The product's state: the bits from the k-th on are done; i is k - 1. -/
structure TmS (x y : Nat) where
  k : Nat
  i : Int
  H : Int
  L : Int
  hi : i = (k : Int) - 1
  hk : k ≤ 64
  hH : H = ((upTo x y k / 18446744073709551616 : Nat) : Int)
  hL : L = ((upTo x y k % 18446744073709551616 : Nat) : Int)
theorem times_any {a b : Int} (ha : -9223372036854775808 ≤ a) (ha' : a ≤ 9223372036854775807) (hb : -9223372036854775808 ≤ b) (hb' : b ≤ 9223372036854775807) {X Y : Int} (hX : ((a.natAbs : Nat) : Int) = X) (hY : ((b.natAbs : Nat) : Int) = Y) :
    PCall Tryz.prog 50 [.int .i64 a, .int .i64 b] (wideV (decide (a < 0) != decide (b < 0)) ((a.natAbs * b.natAbs / 18446744073709551616 : Nat) : Int) ((a.natAbs * b.natAbs % 18446744073709551616 : Nat) : Int)) := by
  have ma := magnitude_any ha ha'
  have mb := magnitude_any hb hb'
  rw [hX] at ma
  rw [hY] at mb
  have lit : LitV (wideV (decide (a < 0) != decide (b < 0)) ((a.natAbs * b.natAbs / 18446744073709551616 : Nat) : Int) ((a.natAbs * b.natAbs % 18446744073709551616 : Nat) : Int)) := wide_lit
  refine pcall_of (lits2 (.int _ _) (.int _ _)) (call50 rfl ?_)
  iterate 4 (all_goals (try conv => whnf); all_goals (try first | with_reducible refine brY (by assumption) ?_ | with_reducible refine brN (by assumption) ?_ | (with_reducible refine brT ?_ ?_; · (simp only [Bool.and_eq_true, Bool.not_eq_true', decide_eq_true_eq, decide_eq_false_iff_not, beq_iff_eq, beq_eq_false_iff_ne, ne_eq] at *; omega)) | with_reducible refine br (fun _ => ?_) (fun _ => ?_) | with_reducible refine ⟨rfl, ?_⟩ | with_reducible refine ARound.succ ?_ | with_reducible refine PCall.call (ma) ?_ | with_reducible refine PCall.call (mb) ?_))
  refine loop_ind (σ := TmS a.natAbs b.natAbs) (fun q => [(0, SV.int IntKind.i64 a), (1, SV.int IntKind.i64 b), (4, SV.ref 0 0 0 0), (5, SV.bool (decide (a < 0))), (6, SV.int IntKind.u64 X), (7, SV.bool (decide (b < 0))), (8, SV.int IntKind.u64 Y), (9, SV.ref 1 0 0 0), (10, SV.int IntKind.i64 q.i)])
    (fun q => ⟨2, [(1, .vec 0 3 [SV.agg [SV.bool (!decide (a < 0) == decide (b < 0)), SV.int IntKind.u64 q.H, SV.int IntKind.u64 q.L]] ⟨false, some 72⟩), (0, .vec 0 3 [SV.agg [SV.bool false, SV.int IntKind.u64 0, SV.int IntKind.u64 0]] ⟨false, some 72⟩)]⟩) (fun q => q.k) ?_
    ⟨64, 63, 0, 0, by decide, by decide, by rw [upTo_top (by omega)]; rfl, by rw [upTo_top (by omega)]; rfl⟩
  rintro ⟨k, i, H, L, hi, hk, hH, hL⟩
  dsimp only
  by_cases h0 : 0 ≤ i
  · have q1 : decide (0 ≤ i) = true := decide_eq_true h0
    obtain ⟨k', rfl⟩ : ∃ k', k = k' + 1 := ⟨k - 1, by omega⟩
    have hs := upTo_step a.natAbs b.natAbs k'
    have hle := upTo_le (x := a.natAbs) (y := b.natAbs) (by omega) (by omega) k'
    have hle1 := upTo_le (x := a.natAbs) (y := b.natAbs) (by omega) (by omega) (k' + 1)
    have p1 : (2 : Int) ^ min (Int.toNat 1) IntKind.u64.bits = 2 := by decide
    have p63 : (2 : Int) ^ min (Int.toNat 63) IntKind.u64.bits = 9223372036854775808 := by decide
    have bit : bitsI .and .u64 (Y.fdiv (2 ^ min i.toNat IntKind.u64.bits)) 1 = ((b.natAbs / 2 ^ k' % 2 : Nat) : Int) := by
      have e1 : min i.toNat IntKind.u64.bits = k' := by show min i.toNat 64 = k'; omega
      rw [e1, ← hY, Int.fdiv_eq_ediv_of_nonneg _ (Int.pow_nonneg (by decide))]
      have e2 : ((b.natAbs : Nat) : Int) / 2 ^ k' = ((b.natAbs / 2 ^ k' : Nat) : Int) := by rw [Int.natCast_ediv]; simp
      rw [e2]
      exact bit_and _ (by have := Nat.div_le_self b.natAbs (2 ^ k'); omega)
    revert hs hle hle1 hH hL
    generalize upTo a.natAbs b.natAbs (k' + 1) = Q
    intro hH hL hs hle hle1
    have fOr : bitsI .or .u64 (IntKind.u64.wrap (H * 2 ^ min (Int.toNat 1) IntKind.u64.bits)) (L.fdiv (2 ^ min (Int.toNat 63) IntKind.u64.bits)) = ((2 * (Q / 18446744073709551616) + Q % 18446744073709551616 / 9223372036854775808 : Nat) : Int) := by
      rw [p1, p63, hH, hL]
      exact or_hi (by omega) (by omega)
    have fL : IntKind.u64.wrap (L * 2 ^ min (Int.toNat 1) IntKind.u64.bits) = ((Q % 18446744073709551616 * 2 % 18446744073709551616 : Nat) : Int) := by
      rw [p1, hL, IntKind.wrap_u64]; omega
    obtain ⟨O, hO⟩ : ∃ O : Nat, O = 2 * (Q / 18446744073709551616) + Q % 18446744073709551616 / 9223372036854775808 := ⟨_, rfl⟩
    obtain ⟨M, hM⟩ : ∃ M : Nat, M = Q % 18446744073709551616 * 2 % 18446744073709551616 := ⟨_, rfl⟩
    rw [← hO] at fOr
    rw [← hM] at fL
    have hb2 : b.natAbs / 2 ^ k' % 2 = 0 ∨ b.natAbs / 2 ^ k' % 2 = 1 := Nat.mod_two_eq_zero_or_one _
    revert hs hb2 bit
    generalize b.natAbs / 2 ^ k' % 2 = t
    intro bit hs hb2
    have hi2 : IntKind.i64.wrap (i - 1) = (k' : Int) - 1 := by rw [IntKind.wrap_i64]; omega
    iterate 30 (all_goals (try conv => whnf); all_goals (try first | with_reducible refine brY (by assumption) ?_ | with_reducible refine brN (by assumption) ?_ | (with_reducible refine brT ?_ ?_; · (simp only [Bool.and_eq_true, Bool.not_eq_true', decide_eq_true_eq, decide_eq_false_iff_not, beq_iff_eq, beq_eq_false_iff_ne, ne_eq] at *; omega)) | with_reducible refine br (fun _ => ?_) (fun _ => ?_) | with_reducible refine ⟨rfl, ?_⟩ | with_reducible refine ARound.succ ?_))
    all_goals rw [bit] at *
    all_goals rw [fL, fOr] at *
    all_goals simp only [beq_iff_eq, beq_eq_false_iff_ne, ne_eq, decide_eq_true_eq, decide_eq_false_iff_not, IntKind.wrap_u64] at *
    · exact ⟨⟨k', _, _, _, hi2, by omega, by rw [hs, if_pos (by omega)]; omega, by rw [hs, if_pos (by omega)]; omega⟩, by dsimp only; omega, rfl, rfl⟩
    · exact ⟨⟨k', _, (O : Int), ((M : Int) + X) % 18446744073709551616, hi2, by omega, by rw [hs, if_pos (by omega)]; omega, by rw [hs, if_pos (by omega)]; omega⟩, by dsimp only; omega, rfl, rfl⟩
    · exact ⟨⟨k', _, (O : Int), (M : Int), hi2, by omega, by rw [hs, if_neg (by omega)]; omega, by rw [hs, if_neg (by omega)]; omega⟩, by dsimp only; omega, rfl, rfl⟩
  · have q1 : decide (0 ≤ i) = false := decide_eq_false h0
    have hk0 : k = 0 := by omega
    subst hk0
    iterate 10 (all_goals (try conv => whnf); all_goals (try first | with_reducible refine brY (by assumption) ?_ | with_reducible refine brN (by assumption) ?_ | (with_reducible refine brT ?_ ?_; · (simp only [Bool.and_eq_true, Bool.not_eq_true', decide_eq_true_eq, decide_eq_false_iff_not, beq_iff_eq, beq_eq_false_iff_ne, ne_eq] at *; omega)) | with_reducible refine br (fun _ => ?_) (fun _ => ?_) | with_reducible refine ⟨rfl, ?_⟩ | with_reducible refine ARound.succ ?_))
    rw [upTo_zero] at hH hL
    exact leaf (by rw [hH, hL]; rfl) lit
end Go.Proofs.YtojponagjbobaaaGreatDoor
namespace Go.Proofs.YtojponagjbobaaaGreatDoor
open Ab Go.RowKit
set_option maxRecDepth 100000
set_option linter.unusedVariables false
set_option linter.unusedSimpArgs false
set_option maxHeartbeats 4000000
set_option pp.maxSteps 3000
section
variable {a b : Int} (ha : -9223372036854775808 ≤ a) (ha' : a ≤ 9223372036854775807) (hb : -9223372036854775808 ≤ b) (hb' : b ≤ 9223372036854775807)
include ha ha' hb hb'
theorem counted5 : PCall Tryz.prog 30 [.int .u8 5, .int .i64 a, .int .i64 b] (two (numI 5 a b)) := by
  have ct := times_any ha ha' hb hb' rfl rfl
  have cf := fits_any (neg := decide (a < 0) != decide (b < 0)) (H := ((a.natAbs * b.natAbs / 18446744073709551616 : Nat) : Int)) (L := ((a.natAbs * b.natAbs % 18446744073709551616 : Nat) : Int)) (Int.natCast_nonneg _) (Int.natCast_nonneg _) (by omega)
  rw [Int.toNat_natCast, Int.toNat_natCast] at cf
  obtain ⟨m1, m2⟩ := mul_fits ha ha' hb hb'
  revert m1 m2 cf ct
  generalize ((a.natAbs * b.natAbs / 18446744073709551616 : Nat) : Int) = H
  generalize ((a.natAbs * b.natAbs % 18446744073709551616 : Nat) : Int) = L
  generalize fitsN (decide (a < 0) != decide (b < 0)) (a.natAbs * b.natAbs / 18446744073709551616) (a.natAbs * b.natAbs % 18446744073709551616) = p
  obtain ⟨p1, p2⟩ := p
  intro ct cf m1 m2
  dsimp only at cf m1 m2
  refine pcall_of (lits3 (.int _ _) (.int _ _) (.int _ _)) (call30 rfl ?_)
  unfold numI
  rw [if_neg (by decide), if_neg (by decide), if_pos rfl, ← m1]
  cases p2
  · iterate 16 (all_goals (try conv => whnf); all_goals (try first | with_reducible refine brY (by assumption) ?_ | with_reducible refine brN (by assumption) ?_ | (with_reducible refine brT ?_ ?_; · (simp only [Bool.and_eq_true, Bool.not_eq_true', decide_eq_true_eq, decide_eq_false_iff_not, beq_iff_eq, beq_eq_false_iff_ne, ne_eq] at *; omega)) | with_reducible refine br (fun _ => ?_) (fun _ => ?_) | with_reducible refine ⟨rfl, ?_⟩ | with_reducible refine ARound.succ ?_ | with_reducible refine PCall.call (ct) ?_ | with_reducible refine PCall.call (cf) ?_))
    exact leaf rfl two_lit
  · have := m2 m1.symm
    iterate 16 (all_goals (try conv => whnf); all_goals (try first | with_reducible refine brY (by assumption) ?_ | with_reducible refine brN (by assumption) ?_ | (with_reducible refine brT ?_ ?_; · (simp only [Bool.and_eq_true, Bool.not_eq_true', decide_eq_true_eq, decide_eq_false_iff_not, beq_iff_eq, beq_eq_false_iff_ne, ne_eq] at *; omega)) | with_reducible refine br (fun _ => ?_) (fun _ => ?_) | with_reducible refine ⟨rfl, ?_⟩ | with_reducible refine ARound.succ ?_ | with_reducible refine PCall.call (ct) ?_ | with_reducible refine PCall.call (cf) ?_))
    exact leaf (by rw [this]; rfl) two_lit
theorem counted6 : PCall Tryz.prog 30 [.int .u8 6, .int .i64 a, .int .i64 b] (two (numI 6 a b)) := by
  refine pcall_of (lits3 (.int _ _) (.int _ _) (.int _ _)) (call30 rfl ?_)
  iterate 12 (all_goals (try conv => whnf); all_goals (try first | with_reducible refine brY (by assumption) ?_ | with_reducible refine brN (by assumption) ?_ | (with_reducible refine brT ?_ ?_; · (simp only [Bool.and_eq_true, Bool.not_eq_true', decide_eq_true_eq, decide_eq_false_iff_not, beq_iff_eq, beq_eq_false_iff_ne, ne_eq] at *; omega)) | with_reducible refine br (fun _ => ?_) (fun _ => ?_) | with_reducible refine ⟨rfl, ?_⟩ | with_reducible refine ARound.succ ?_))
  all_goals refine leaf ?_ two_lit
  all_goals simp only [decide_eq_true_eq, decide_eq_false_iff_not, beq_iff_eq, beq_eq_false_iff_ne, ne_eq, Bool.not_eq_true', Bool.not_eq_false'] at *
  all_goals unfold numI two
  all_goals rw [if_neg (by decide), if_neg (by decide), if_neg (by decide)]
  · rw [if_pos (by assumption)]
  · have hb1 : b = -1 := by assumption
    have ha1 : a = -9223372036854775808 := by assumption
    subst hb1; subst ha1
    rw [if_neg (by decide), if_neg (by decide), if_neg (by decide +kernel)]
  · have hb1 : b = -1 := by assumption
    subst hb1
    have e : a.tdiv (-1) = -a := by rw [Int.tdiv_neg, Int.tdiv_one]
    rw [if_neg (by decide), if_neg (by decide), e, if_pos (inI_iff.2 (by omega)), IntKind.wrap_i64]
    congr 3; omega
  · have := tdiv_in ha ha' hb hb' (by assumption) (by assumption)
    rw [if_neg (by assumption), if_neg (by decide), if_pos (inI_iff.2 this), IntKind.wrap_i64]
    congr 3; omega
omit ha ha' in
theorem counted7 : PCall Tryz.prog 30 [.int .u8 7, .int .i64 a, .int .i64 b] (two (numI 7 a b)) := by
  refine pcall_of (lits3 (.int _ _) (.int _ _) (.int _ _)) (call30 rfl ?_)
  iterate 12 (all_goals (try conv => whnf); all_goals (try first | with_reducible refine brY (by assumption) ?_ | with_reducible refine brN (by assumption) ?_ | (with_reducible refine brT ?_ ?_; · (simp only [Bool.and_eq_true, Bool.not_eq_true', decide_eq_true_eq, decide_eq_false_iff_not, beq_iff_eq, beq_eq_false_iff_ne, ne_eq] at *; omega)) | with_reducible refine br (fun _ => ?_) (fun _ => ?_) | with_reducible refine ⟨rfl, ?_⟩ | with_reducible refine ARound.succ ?_))
  all_goals refine leaf ?_ two_lit
  all_goals simp only [decide_eq_true_eq, decide_eq_false_iff_not, beq_iff_eq, beq_eq_false_iff_ne, ne_eq, Bool.not_eq_true', Bool.not_eq_false'] at *
  all_goals unfold numI two
  all_goals rw [if_neg (by decide), if_neg (by decide), if_neg (by decide)]
  · rw [if_pos (by assumption)]
  · have hb1 : b = -1 := by assumption
    subst hb1
    rw [if_neg (by decide), if_pos rfl, Int.tmod_neg, Int.tmod_one]
  · rw [if_neg (by assumption), if_pos rfl]
end
end Go.Proofs.YtojponagjbobaaaGreatDoor
namespace Go.Proofs.YtojponagjbobaaaGreatDoor
open Ab Go.RowKit
set_option linter.unusedVariables false
set_option linter.unusedSimpArgs false
theorem okV_bool {v : V} (h : okV v = true) (hk : v.k = 0 ∨ v.k = 1) : v = vnull ∨ v = vbool false ∨ v = vbool true := by
  obtain ⟨k, n, t⟩ := v
  dsimp only at hk
  unfold okV at h
  rcases hk with rfl | rfl
  · simp at h
    obtain ⟨rfl, rfl⟩ := h
    exact .inl rfl
  · simp at h
    obtain ⟨rfl | rfl, rfl⟩ := h
    · exact .inr (.inl rfl)
    · exact .inr (.inr rfl)
theorem chk_ok {v : V} (h : (chk v != 0) = false) : okV v = true := by
  unfold chk at h
  split at h
  · assumption
  · simp at h
theorem gives_bool2 {op a b : Int} (ho : op = 15 ∨ op = 16) (hg : ((givesI op [a, b]).2 != 0) = false) : (a = 0 ∨ a = 1) ∧ (b = 0 ∨ b = 1) := by
  rcases ho with rfl | rfl
  all_goals
    simp only [givesI, takes, allK] at hg
    simp at hg
    by_cases h3 : 3 < a ∨ 3 < b
    · simp [h3] at hg
    · simp only [h3, if_false] at hg
      split at hg
      · omega
      · exact absurd hg (by decide)
theorem doV_logic {op : Int} (ho : op = 15 ∨ op = 16) {x y : V} (h1 : (chk x != 0) = false) (h2 : (chk y != 0) = false) (h3 : ((givesI op [x.k, y.k]).2 != 0) = false) : doV op [x, y] = (logicV op x y, 0) := by
  obtain ⟨kx, ky⟩ := gives_bool2 ho h3
  rcases ho with rfl | rfl <;> rcases okV_bool (chk_ok h1) kx with rfl | rfl | rfl <;> rcases okV_bool (chk_ok h2) ky with rfl | rfl | rfl <;> rfl
theorem gives_bool1 {a : Int} (hg : ((givesI 17 [a]).2 != 0) = false) : a = 0 ∨ a = 1 := by
  simp only [givesI, takes, allK] at hg
  simp at hg
  by_cases h3 : 3 < a
  · simp [h3] at hg
  · simp only [h3, if_false] at hg
    split at hg
    · omega
    · exact absurd hg (by decide)
theorem doV_not {x : V} (h1 : (chk x != 0) = false) (h3 : ((givesI 17 [x.k]).2 != 0) = false) (hk : (x.k == 0) = false) : doV 17 [x] = (vbool (x.n == 0), 0) := by
  rcases okV_bool (chk_ok h1) (gives_bool1 h3) with rfl | rfl | rfl
  · exact absurd hk (by decide)
  · rfl
  · rfl

structure V.In (v : V) : Prop where
  k0 : 0 ≤ v.k
  lo : -9223372036854775808 ≤ v.n
  hi : v.n ≤ 9223372036854775807
end Go.Proofs.YtojponagjbobaaaGreatDoor
namespace Go.Proofs.YtojponagjbobaaaGreatDoor
open Ab Go.RowKit
set_option linter.unusedVariables false
theorem i64_in {n : Int} (h : IntKind.i64.min ≤ n ∧ n ≤ IntKind.i64.max) : -9223372036854775808 ≤ n ∧ n ≤ 9223372036854775807 := by
  have e1 : IntKind.i64.min = -9223372036854775808 := by decide
  have e2 : IntKind.i64.max = 9223372036854775807 := by decide
  omega
theorem u8_in {n : Int} (h : IntKind.u8.min ≤ n ∧ n ≤ IntKind.u8.max) : 0 ≤ n ∧ n ≤ 255 := by
  have e1 : IntKind.u8.min = 0 := by decide
  have e2 : IntKind.u8.max = 255 := by decide
  omega
noncomputable def rdI64 : Rd Tryz.prog 2 Int := (Rd.int (k := .i64) Tryz.underlying2 (by kernel_rfl)).map id (fun n => [.int .i64 n]) (fun n => -9223372036854775808 ≤ n ∧ n ≤ 9223372036854775807) (fun _ => rfl) (fun _ h => i64_in h) fun _ => rfl
noncomputable def rdStr : Rd Tryz.prog 9 (List UInt8) := Rd.str Tryz.underlying9 (by kernel_rfl)
noncomputable def rdOp : Rd Tryz.prog 22 Int := (Rd.int (k := .u8) Tryz.underlying22 (by kernel_rfl)).map id (fun n => [.int .u8 n]) (fun n => 0 ≤ n ∧ n ≤ 255) (fun _ => rfl) (fun _ h => u8_in h) fun _ => rfl
noncomputable def rdKind : Rd Tryz.prog 27 Int := (Rd.int (k := .u8) Tryz.underlying27 (by kernel_rfl)).map id (fun n => [.int .u8 n]) (fun n => 0 ≤ n ∧ n ≤ 255) (fun _ => rfl) (fun _ h => u8_in h) fun _ => rfl
noncomputable def rdValue : Rd Tryz.prog 29 V :=
  (Rd.struct Tryz.underlying29 (.cons rdKind rfl (.cons rdI64 rfl (.cons rdStr rfl .nil))) (by kernel_rfl)).map (fun x => ⟨x.1, x.2.1, x.2.2.1⟩) (fun v => [.int .u8 v.k, .int .i64 v.n, .str v.t]) V.In (fun _ => rfl) (fun _ h => ⟨h.1.1, h.2.1.1, h.2.1.2⟩) fun _ => rfl
@[reducible] noncomputable def rdValues : Rd Tryz.prog 23 (List V) := Rd.slice Tryz.underlying23 (by kernel_rfl) rdValue (by decide) V.sv (fun _ => rfl) vnull
@[reducible] noncomputable def rdKinds : Rd Tryz.prog 24 (List Int) := Rd.slice Tryz.underlying24 (by kernel_rfl) rdKind (by decide) (fun n => .int .u8 n) (fun _ => rfl) 0
end Go.Proofs.YtojponagjbobaaaGreatDoor
namespace Go.Proofs.YtojponagjbobaaaGreatDoor
open Ab Go.RowKit
set_option maxRecDepth 100000
set_option linter.unusedVariables false
set_option linter.unusedSimpArgs false
set_option maxHeartbeats 4000000
set_option pp.maxSteps 3000
theorem digits_small {n : Nat} (h : n < 10) : PCall Tryz.prog 43 [.int .u64 n] (.str (Lib.decDigits n)) := by
  have e : Lib.decDigits n = [UInt8.ofNat (48 + n)] := by rw [Lib.decDigits, dif_pos h]
  rw [e]
  rcases (by omega : n = 0 ∨ n = 1 ∨ n = 2 ∨ n = 3 ∨ n = 4 ∨ n = 5 ∨ n = 6 ∨ n = 7 ∨ n = 8 ∨ n = 9) with rfl | rfl | rfl | rfl | rfl | rfl | rfl | rfl | rfl | rfl
  all_goals refine pcall_of (lits1 (.int _ _)) (call43 rfl ?_)
  all_goals iterate 8 (all_goals (try conv => whnf); all_goals (try first | with_reducible refine brY (by assumption) ?_ | with_reducible refine brN (by assumption) ?_ | (with_reducible refine brT ?_ ?_; · (simp only [Bool.and_eq_true, Bool.not_eq_true', decide_eq_true_eq, decide_eq_false_iff_not, beq_iff_eq, beq_eq_false_iff_ne, ne_eq] at *; omega)) | with_reducible refine br (fun _ => ?_) (fun _ => ?_) | with_reducible refine ⟨rfl, ?_⟩ | with_reducible refine ARound.succ ?_))
  all_goals exact leaf rfl (.str _)
theorem decDigits_len : ∀ (k n : Nat), n < 10 ^ (k + 1) → (Lib.decDigits n).length ≤ k + 1
  | 0, n, h => by rw [Lib.decDigits, dif_pos (by simpa using h)]; simp
  | k+1, n, h => by
    rw [Lib.decDigits]
    split
    · simp
    · have := decDigits_len k (n / 10) (by rw [Nat.pow_succ] at h; omega)
      simp only [List.length_append, List.length_cons, List.length_nil]
      omega
theorem digits_any : ∀ (k : Nat) {n : Nat}, n < 10 ^ (k + 1) → n < 18446744073709551616 → PCall Tryz.prog 43 [.int .u64 n] (.str (Lib.decDigits n))
  | 0, n, h, _ => digits_small (by simpa using h)
  | k+1, n, h, h64 => by
    by_cases hs : n < 10
    · exact digits_small hs
    have e : Lib.decDigits n = Lib.decDigits (n / 10) ++ Lib.decDigits (n % 10) := by
      rw [Lib.decDigits, dif_neg hs]
      congr 1
      rw [Lib.decDigits, dif_pos (by omega)]
    have c1 := digits_any k (n := n / 10) (by rw [Nat.pow_succ] at h; omega) (by omega)
    have c2 := digits_small (n := n % 10) (by omega)
    have l1 := decDigits_len 19 (n / 10) (by omega)
    have l2 := decDigits_len 0 (n % 10) (by omega)
    rw [e]
    have q1 : IntKind.u64.wrap ((n : Int).tdiv 10) = ((n / 10 : Nat) : Int) := by
      rw [IntKind.wrap_u64, Int.tdiv_eq_ediv_of_nonneg (by omega)]; omega
    have q2 : (n : Int).tmod 10 = ((n % 10 : Nat) : Int) := by
      rw [Int.tmod_eq_emod_of_nonneg (by omega)]; omega
    rw [← q1] at c1
    rw [← q2] at c2
    have h10 : ¬ ((n : Int) < 10) := by omega
    generalize (n : Int) = N at c1 c2 h10 ⊢
    generalize Lib.decDigits (n / 10) = X at c1 l1 ⊢
    generalize Lib.decDigits (n % 10) = Y at c2 l2 ⊢
    have hd : decide (N < 10) = false := decide_eq_false h10
    have hl : decide (X.length + Y.length ≤ 9223372036854775807) = true := decide_eq_true (by omega)
    refine pcall_of (lits1 (.int _ _)) (call43 rfl ?_)
    iterate 12 (all_goals (try conv => whnf); all_goals (try first | with_reducible refine brY (by assumption) ?_ | with_reducible refine brN (by assumption) ?_ | (with_reducible refine brT ?_ ?_; · (simp only [Bool.and_eq_true, Bool.not_eq_true', decide_eq_true_eq, decide_eq_false_iff_not, beq_iff_eq, beq_eq_false_iff_ne, ne_eq] at *; omega)) | with_reducible refine br (fun _ => ?_) (fun _ => ?_) | with_reducible refine ⟨rfl, ?_⟩ | with_reducible refine ARound.succ ?_ | with_reducible refine PCall.call (c1) ?_ | with_reducible refine PCall.call (c2) ?_))
    exact leaf rfl (.str _)
end Go.Proofs.YtojponagjbobaaaGreatDoor
namespace Go.Proofs.YtojponagjbobaaaGreatDoor
open Ab Go.RowKit
set_option linter.unusedVariables false
set_option linter.unusedSimpArgs false
theorem w64 {x : Int} (h : -9223372036854775808 ≤ x) (h' : x ≤ 9223372036854775807) : IntKind.i64.wrap x = x := by rw [IntKind.wrap_i64]; omega
theorem wu64 {x : Int} (h : 0 ≤ x) (h' : x < 18446744073709551616) : IntKind.u64.wrap x = x := by rw [IntKind.wrap_u64]; omega
theorem wu8 {x : Int} (h : 0 ≤ x) (h' : x < 256) : IntKind.u8.wrap x = x := by rw [IntKind.wrap_u8]; omega
theorem w64sub {n : Nat} (h : 0 < n) (h' : n ≤ 9223372036854775807) : IntKind.i64.wrap ((n : Int) - 1) = ((n - 1 : Nat) : Int) := by rw [w64 (by omega) (by omega)]; omega
theorem w64add {n : Nat} (h' : n < 9223372036854775807) : IntKind.i64.wrap ((n : Int) + 1) = ((n + 1 : Nat) : Int) := by rw [w64 (by omega) (by omega)]; omega
theorem u8_back (b : UInt8) : UInt8.ofNat b.toNat = b := by simp
theorem u8_succ {b : UInt8} (h : b < 255) : UInt8.ofNat (IntKind.u8.wrap ((b.toNat : Int) + 1)).toNat = b + 1 := by
  rw [UInt8.lt_iff_toNat_lt] at h
  have : (255 : UInt8).toNat = 255 := rfl
  rw [wu8 (by omega) (by omega)]
  apply UInt8.toNat_inj.1
  rw [UInt8.toNat_add]
  have : (1 : UInt8).toNat = 1 := rfl
  simp
theorem u8_lt_iff {b c : UInt8} : b < c ↔ b.toNat < c.toNat := UInt8.lt_iff_toNat_lt
theorem take_succ_getD {s : List UInt8} {n : Nat} (h : n < s.length) : s.take (n + 1) = s.take n ++ [s.getD n 0] := by
  rw [List.take_add_one, List.getElem?_eq_getElem h, List.getD_eq_getElem?_getD, List.getElem?_eq_getElem h]; rfl
end Go.Proofs.YtojponagjbobaaaGreatDoor
namespace Ab
set_option linter.unusedVariables false
set_option linter.unusedSimpArgs false
open Go

/-- What a slice, or a text, holds. -/
def Elems (h : Heap) (sz : Nat) (x : SV) (xs : List SV) : Prop := ∀ k : List SV → Prop, k xs → elemsK h sz x k
@[reducible] def byS (b : UInt8) : SV := .int .u8 b.toNat
theorem elems_run {h : Heap} {sz : Nat} {x : SV} {xs : List SV} {k : List SV → Prop} (hx : Elems h sz x xs) (hk : k xs) : elemsK h sz x k := hx k hk
theorem elems_str {h : Heap} (s : List UInt8) : Elems h 1 (.str s) (s.map byS) := fun k hk => by
  show asr (Nat.beq 1 1) (strK s k)
  rw [asr_iff, strK_eq]
  exact ⟨rfl, hk⟩
theorem elems_lst {h : Heap} {sz n : Nat} {get : Nat → SV} : Elems h sz (.lst sz n get) ((List.range n).map get) := fun k hk => by
  show asr (Nat.beq sz sz) (rangeK get n 0 k)
  rw [asr_iff, rangeK_eq, Nat.beq_refl]
  exact ⟨rfl, by rw [← List.range_eq_range']; exact hk⟩
theorem elems_bytes {h : Heap} {s : List UInt8} : Elems h 1 (.lst 1 s.length fun i => byS (s.getD i 0)) (s.map byS) := fun k hk => by
  refine elems_lst k ?_
  have e : (List.range s.length).map (fun i => byS (s.getD i 0)) = s.map byS := by
    apply List.ext_getElem
    · simp
    · intro i h1 h2
      simp only [List.length_map] at h2
      simp [h2]
  rw [e]; exact hk
theorem elems_sl {m : Nat} {l : List (Nat × AObj)} {i g sz off len szo : Nat} {cap : Option Nat} {elems : List SV} {sk : Sk} (ho : objL l i = some (.vec g szo elems sk)) (hle : off + len ≤ elems.length) :
    Elems ⟨m, l⟩ sz (.sl i g sz off len cap) ((elems.drop off).take len) := fun k hk => by
  show asr (Nat.beq sz sz) (lookO l i (fun o => match o with
      | .vec g' _ elems _ => asr (Nat.beq g' g) (dropN elems off fun l => takeN l len k)
      | _ => False) False)
  rw [asr_iff, lookO_eq, ho]
  refine ⟨Nat.beq_refl _, ?_⟩
  dsimp only
  rw [asr_iff, dropN_iff, takeN_iff]
  exact ⟨Nat.beq_refl _, by omega, by rw [List.length_drop]; omega, hk⟩
theorem elems_all {m : Nat} {l : List (Nat × AObj)} {i g sz n szo : Nat} {cap : Option Nat} {elems : List SV} {sk : Sk} (ho : objL l i = some (.vec g szo elems sk)) (hn : n = elems.length) :
    Elems ⟨m, l⟩ sz (.sl i g sz 0 n cap) elems := fun k hk => by
  refine elems_sl ho (by omega) k ?_
  rw [List.drop_zero, List.take_of_length_le (by omega)]; exact hk
theorem elems_whole {m : Nat} {l : List (Nat × AObj)} {i g sz off len szo : Nat} {cap : Option Nat} {elems xs : List SV} {sk : Sk} (ho : objL l i = some (.vec g szo elems sk)) (hle : off + len ≤ elems.length) (hxs : (elems.drop off).take len = xs) :
    Elems ⟨m, l⟩ sz (.sl i g sz off len cap) xs := hxs ▸ elems_sl ho hle

theorem allOnes_by : ∀ s : List UInt8, allOnes (s.map byS) = true
  | [] => rfl
  | b :: r => by
    show (allOne (byS b).cells && allOnes (r.map byS)) = true
    rw [allOnes_by r]; rfl

theorem append_none {ty : TypeId} {sz bytes : Nat} {h : Heap} {x : SV} {k : SV → Heap → Prop} (hx : Elems h sz x []) (hk : k .nils h) : appendK ty sz bytes h .nils x k := by
  unfold appendK
  exact hx _ hk
theorem append_noneS {ty : TypeId} {sz bytes : Nat} {m : Nat} {l : List (Nat × AObj)} {x : SV} {k : SV → Heap → Prop} {i g sz' off len szo : Nat} {cap : Option Nat} {elems : List SV} {sk : Sk} (hx : Elems ⟨m, l⟩ sz x []) (ho : objL l i = some (.vec g szo elems sk))
    (hk : k (.sl i g sz' off len cap) ⟨m, l⟩) : appendK ty sz bytes ⟨m, l⟩ (.sl i g sz' off len cap) x k := by
  unfold appendK
  refine hx _ ?_
  show liveK ⟨m, l⟩ i g _
  unfold liveK
  dsimp only
  rw [lookO_eq, ho]
  dsimp only
  rw [asr_iff]
  exact ⟨Nat.beq_refl _, hk⟩
theorem append_new {ty : TypeId} {sz bytes m : Nat} {l : List (Nat × AObj)} {x : SV} {xs : List SV} {k : SV → Heap → Prop} (hx : Elems ⟨m, l⟩ sz x xs) (h0 : 0 < xs.length) (h1 : allOnes xs = true)
    (hl : xs.length * bytes ≤ 140737488355328) (hl' : xs.length ≤ 9223372036854775807) (hk : k (.sl m 0 sz 0 xs.length none) ⟨m + 1, (m, .vec 0 sz xs ⟨true, some ty⟩) :: l⟩) : appendK ty sz bytes ⟨m, l⟩ .nils x k := by
  unfold appendK
  refine hx _ ?_
  cases xs with
  | nil => simp at h0
  | cons x0 xr =>
    dsimp only
    rw [asr_iff, asr_iff]
    exact ⟨h1, by rw [decide_eq_true hl, decide_eq_true hl']; rfl, hk⟩
/-- Behind a row that the run made: it moves, or has room; its elder names mean nothing any more. -/
theorem append_mv {ty : TypeId} {sz bytes m : Nat} {l : List (Nat × AObj)} {x : SV} {xs : List SV} {k : SV → Heap → Prop} {i g len szo : Nat} {elems : List SV} {sk : Sk} (hx : Elems ⟨m, l⟩ sz x xs) (h0 : 0 < xs.length) (h1 : allOnes xs = true)
    (ho : objL l i = some (.vec g szo elems sk)) (hn : len = elems.length) (hl : (len + xs.length) * bytes ≤ 140737488355328) (hl' : len + xs.length ≤ 9223372036854775807)
    (hk : setO l i (.vec (g + 1) szo (elems ++ xs) ⟨true, joinTy sk.ty ty⟩) fun l' => k (.sl i (g + 1) sz 0 (len + xs.length) none) ⟨m, l'⟩) : appendK ty sz bytes ⟨m, l⟩ (.sl i g sz 0 len none) x k := by
  unfold appendK
  refine hx _ ?_
  cases xs with
  | nil => simp at h0
  | cons x0 xr =>
    dsimp only
    rw [asr_iff]
    refine ⟨h1, ?_⟩
    show asr (Nat.beq sz sz) _
    rw [asr_iff]
    refine ⟨Nat.beq_refl _, ?_⟩
    rw [lookO_eq, ho]
    dsimp only
    rw [asr_iff]
    refine ⟨Nat.beq_refl _, ?_⟩
    have hno : (Nat.blt 0 sz && Nat.ble (0 + len + (x0 :: xr).length) elems.length) = false := by
      cases hb : Nat.ble (0 + len + (x0 :: xr).length) elems.length with
      | false => rw [Bool.and_false]
      | true =>
        have := Nat.le_of_ble_eq_true hb
        rw [hn] at this
        simp only [List.length_cons] at this
        omega
    rw [hno]
    show asr _ _
    rw [asr_iff]
    refine ⟨?_, ?_⟩
    · rw [decide_eq_true hl, decide_eq_true hl', hn]
      simp only [Bool.and_true, Nat.beq_refl]
    · rw [appL_eq]
      exact hk
/-! The same where everything is written out: asked of the kernel. -/
theorem append_mvC {ty : TypeId} {sz bytes m : Nat} {l : List (Nat × AObj)} {x : SV} {k : SV → Heap → Prop} {i g len : Nat} {xs : List SV} {szo : Nat} {elems : List SV} {sk : Sk} (hx : ∀ k, elemsK ⟨m, l⟩ sz x k = k xs) (ho : objL l i = some (.vec g szo elems sk))
    (hb : (Nat.blt 0 xs.length && (allOnes xs && (Nat.beq len elems.length && (Nat.ble ((len + xs.length) * bytes) 140737488355328 && Nat.ble (len + xs.length) 9223372036854775807)))) = true)
    (hk : setO l i (.vec (g + 1) szo (elems ++ xs) ⟨true, joinTy sk.ty ty⟩) fun l' => k (.sl i (g + 1) sz 0 (len + xs.length) none) ⟨m, l'⟩) : appendK ty sz bytes ⟨m, l⟩ (.sl i g sz 0 len none) x k := by
  simp only [Bool.and_eq_true, Nat.blt_eq, Nat.beq_eq, Nat.ble_eq] at hb
  exact append_mv (fun k hk => by rw [hx]; exact hk) hb.1 hb.2.1 ho hb.2.2.1 hb.2.2.2.1 hb.2.2.2.2 hk
theorem append_newC {ty : TypeId} {sz bytes m : Nat} {l : List (Nat × AObj)} {x : SV} {k : SV → Heap → Prop} {xs : List SV} (hx : ∀ k, elemsK ⟨m, l⟩ sz x k = k xs)
    (hb : (Nat.blt 0 xs.length && (allOnes xs && (Nat.ble (xs.length * bytes) 140737488355328 && Nat.ble xs.length 9223372036854775807))) = true)
    (hk : k (.sl m 0 sz 0 xs.length none) ⟨m + 1, (m, .vec 0 sz xs ⟨true, some ty⟩) :: l⟩) : appendK ty sz bytes ⟨m, l⟩ .nils x k := by
  simp only [Bool.and_eq_true, Nat.blt_eq, Nat.ble_eq] at hb
  exact append_new (fun k hk => by rw [hx]; exact hk) hb.1 hb.2.1 hb.2.2.1 hb.2.2.2 hk
theorem strK_run {s : List UInt8} {k : List SV → Prop} (hk : k (s.map byS)) : strK s k := by rw [strK_eq]; exact hk
theorem bytesK_run {s : List UInt8} {k : List UInt8 → Prop} (hk : k s) : bytesK (s.map byS) k := by
  have e : s.map byS = (s.map fun b => (b.toNat : Int)).map (SV.int .u8) := by rw [List.map_map]; rfl
  rw [e]
  refine bytesK_of ?_
  have e2 : (s.map fun b => (b.toNat : Int)).map (fun n => UInt8.ofNat n.toNat) = s := by
    rw [List.map_map]
    conv => rhs; rw [← List.map_id s]
    apply List.map_congr_left
    intro b _
    simp
  rw [e2]; exact hk
theorem takeN_run {l : List SV} {n : Nat} {k : List SV → Prop} (h : n ≤ l.length) (hk : k (l.take n)) : takeN l n k := takeN_iff.2 ⟨h, hk⟩
theorem takeN_all {l : List SV} {n : Nat} {k : List SV → Prop} (h : n = l.length) (hk : k l) : takeN l n k := takeN_iff.2 ⟨by omega, by rw [List.take_of_length_le (by omega)]; exact hk⟩
theorem dropN_run {l : List SV} {n : Nat} {k : List SV → Prop} (h : n ≤ l.length) (hk : k (l.drop n)) : dropN l n k := dropN_iff.2 ⟨h, hk⟩
end Ab
namespace Ab
set_option linter.unusedVariables false
set_option linter.unusedSimpArgs false
open Go
@[reducible] def lstB (b : List UInt8) : SV := .lst 1 b.length fun i => byS (b.getD i 0)
theorem agree_by : ∀ (s : List UInt8) (k : Nat) (get : Nat → SV), (∀ j, j < s.length → get (k + j) = byS (s.getD j 0)) → agree (s.map byS) k get
  | [], _, _, _ => trivial
  | b :: r, k, get, h => by
    refine ⟨?_, .int _ _, agree_by r (k + 1) get fun j hj => ?_⟩
    · have := h 0 (by simp)
      simpa using this.symm
    · have := h (j + 1) (by simp; omega)
      rw [show k + 1 + j = k + (j + 1) by omega, this]
      simp [List.getD]
theorem hard_by {A : Heap} {i g : Nat} {cap : Option Nat} {s : List UInt8} {n : Nat} {sk : Sk} (ho : A.obj i = some (.vec g 1 (s.map byS) sk)) (hn : n = s.length) : Hard A (.sl i g 1 0 n cap) (lstB s) := by
  subst hn
  have := hard_all (cap := cap) (get := fun i => byS (s.getD i 0)) ho (agree_by s 0 _ fun j _ => by rw [Nat.zero_add])
  rw [List.length_map] at this
  exact this
theorem setO_skip {i j : Nat} {o o' : AObj} {l : List (Nat × AObj)} {k : List (Nat × AObj) → Prop} (h : Nat.beq j i = false) (hk : k ((j, o) :: (i, o') :: l)) {o2 : AObj} : setO ((j, o) :: (i, o2) :: l) i o' k := by
  unfold setO
  rw [h]
  show setO ((i, o2) :: l) i o' _
  unfold setO
  rw [Nat.beq_refl]
  exact hk
theorem nbeq {a b : Nat} (h : a ≠ b) : Nat.beq a b = false := by
  cases hh : Nat.beq a b
  · rfl
  · exact absurd (Nat.eq_of_beq_eq_true hh) h
theorem objL_hd {i : Nat} {o : AObj} {l : List (Nat × AObj)} : objL ((i, o) :: l) i = some o := by simp [objL]
theorem objL_nx {i j : Nat} {o : AObj} {l : List (Nat × AObj)} (h : j ≠ i) : objL ((j, o) :: l) i = objL l i := by simp [objL, h]
theorem hsub_skip {n i j : Nat} {o o' : AObj} {l : List (Nat × AObj)} (h : j ≠ i) : HSub ⟨n, [(i, o')]⟩ ⟨n, (j, o) :: (i, o') :: l⟩ := by
  refine ⟨rfl, fun a b hb => ?_⟩
  have hb : objL [(i, o')] a = some b := hb
  show objL ((j, o) :: (i, o') :: l) a = some b
  by_cases ha : i = a
  · subst ha
    rw [objL_hd] at hb
    rw [objL_nx h, objL_hd, hb]
  · rw [objL_nx ha] at hb
    cases hb
theorem hsub_hd {n i : Nat} {o : AObj} {l : List (Nat × AObj)} : HSub ⟨n, [(i, o)]⟩ ⟨n, (i, o) :: l⟩ := by
  refine ⟨rfl, fun a b hb => ?_⟩
  have hb : objL [(i, o)] a = some b := hb
  show objL ((i, o) :: l) a = some b
  by_cases ha : i = a
  · subst ha
    rw [objL_hd] at hb ⊢
    exact hb
  · rw [objL_nx ha] at hb
    cases hb
theorem fdiv7 {y : Nat} : (y : Int).fdiv (2 ^ min (Int.toNat 7) IntKind.u64.bits) = ((y / 128 : Nat) : Int) := by
  have e : min (Int.toNat 7) IntKind.u64.bits = 7 := by decide
  rw [e, Int.fdiv_eq_ediv_of_nonneg _ (by decide)]
  norm_cast
/-- All names and all that is spoken of lies below a number. -/
def ltH (l : List (Nat × AObj)) (n : Nat) : Prop := ∀ i o, objL l i = some o → i < n ∧ objLt n o
def LitEnd : AEnd → Prop
  | .ret v => LitV v
  | .pan v => LitV v
theorem rep_cut {c : Cx} {w : World} {h h' : Heap} (hr : Rep c h w) (hl : ∀ i o, h'.obj i = some o → h.obj i = some o ∧ i < h'.nxt ∧ objLt h'.nxt o) : Rep c h' w := by
  have hsub : ∀ i o, h'.obj i = some o → h.obj i = some o := fun i o ho => (hl i o ho).1
  refine ⟨fun i o ho => (hl i o ho).2.1, fun i o ho => ?_, fun i j o p ho hp' heq => hr.inj i j o p (hsub i o ho) (hsub j p hp') heq, fun i o ho => hr.apart i o (hsub i o ho), hr.im, hr.glob⟩
  have hor := hr.obj i o (hsub i o ho)
  have holt := (hl i o ho).2.2
  cases hor with
  | vec g sz elems slack C ty fz hw hle heq hty hc hf hcell =>
    refine .vec g sz elems slack C ty fz hw hle heq hty hc hf fun i j e v x h1 h2 h3 => ?_
    have hv := hcell i j e v x h1 h2 h3
    have hlte := holt e (List.mem_of_getElem? h1)
    by_cases hagg : ∃ l, e = .agg l
    · obtain ⟨l, rfl⟩ := hagg
      exact hv.cut hsub 7 (List.all_eq_true.1 hlte v (List.mem_of_getElem? h2))
    · have h1 : e.cells = [e] := by cases e <;> first | rfl | exact absurd ⟨_, rfl⟩ hagg
      rw [h1] at h2
      cases j with
      | zero => simp at h2; subst h2; exact hv.cut hsub 8 hlte
      | succ j => simp at h2
  | iter s pos hw => exact .iter s pos hw
  | map es cl hw hs => exact .map es cl hw hs
  | miter m since seen stepped r hw hm => exact .miter m since seen stepped r hw (hm.cut hsub 8 holt)
  | fro g ty xs C fz hw hle hc => exact .fro g ty xs C fz hw hle hc
theorem ACall.cut {P : Program} {f : FuncId} {args : List SV} {n N : Nat} {l : List (Nat × AObj)} {R : AEnd → Heap → Prop} (hn : n ≤ N)
    (hc : ACall P f args ⟨n, l⟩ fun r h' => ∃ l', (∀ i o, objL l' i = some o → h'.obj i = some o ∧ i < N ∧ objLt N o) ∧ LitEnd r ∧ R r ⟨N, l'⟩) : ACall P f args ⟨n, l⟩ R :=
  ⟨fun c w xs hr hs hv => (hc.calls c w xs hr hs hv).mono fun e w' ⟨c', h', r, ⟨l', hl, hlit, hR⟩, hr', hx', he⟩ => by
    refine ⟨c', ⟨N, l'⟩, r, hR, rep_cut hr' hl, ⟨hx'.os, hx'.tape, hx'.output, hx'.size, hx'.frame, hx'.shape, hx'.im, hx'.im', hn, fun i o' hi ho' => hx'.old i o' hi (hl i o' ho').1, fun i o' ho' => hx'.new i o' (hl i o' ho').1⟩, ?_⟩
    cases r with
    | ret v => obtain ⟨x, he, hx⟩ := he; exact ⟨x, he, .pure (hlit.vp hx)⟩
    | pan v => obtain ⟨x, he, hx⟩ := he; exact ⟨x, he, .pure (hlit.vp hx)⟩⟩
theorem lookO_run {l : List (Nat × AObj)} {i : Nat} {o : AObj} {k : AObj → Prop} {d : Prop} (h : objL l i = some o) (hk : k o) : lookO l i k d := by
  rw [lookO_eq, h]; exact hk
theorem setO_run {l : List (Nat × AObj)} {i : Nat} {o : AObj} {k : List (Nat × AObj) → Prop} (hk : k (putO l i o)) : setO l i o k := by
  rw [setO_eq]; exact hk
theorem dropO_run {k : List (Nat × AObj) → Prop} {l : List (Nat × AObj)} {i : Nat} (hk : ∀ l', k l') : dropO l i k := by
  induction l generalizing k with
  | nil => exact hk []
  | cons x r ih =>
    obtain ⟨s, o⟩ := x
    unfold dropO
    rcases beq_cases s i with ⟨h, _⟩ | ⟨h, _⟩ <;> rw [h]
    · exact ih hk
    · exact ih fun l' => hk _
theorem putO_putO : ∀ (l : List (Nat × AObj)) (i : Nat) (a b : AObj), putO (putO l i a) i b = putO l i b
  | [], i, a, b => rfl
  | (s, o) :: r, i, a, b => by
    by_cases h : s = i
    · simp only [putO, if_pos h]
    · simp only [putO, if_neg h, putO_putO r i a b]
theorem putO_comm : ∀ (l : List (Nat × AObj)) {i j : Nat} (a b : AObj), i ≠ j → putO (putO l i a) j b = putO (putO l j b) i a
  | [], i, j, a, b, _ => rfl
  | (s, o) :: r, i, j, a, b, h => by
    by_cases h1 : s = i
    · have h2 : s ≠ j := by omega
      simp only [putO, if_pos h1, if_neg h2]
    · by_cases h2 : s = j
      · simp only [putO, if_pos h2, if_neg h1]
      · simp only [putO, if_neg h1, if_neg h2, putO_comm r a b h]
theorem objL_put_same {l : List (Nat × AObj)} {i : Nat} {o o' : AObj} (h : objL l i = some o) : objL (putO l i o') i = some o' := objL_putS l i o o' h
theorem objL_put_ne {l : List (Nat × AObj)} {i j : Nat} {o' : AObj} (h : j ≠ i) : objL (putO l i o') j = objL l j := by rw [objL_put, if_neg h]
theorem nbeq_self (n : Nat) : Nat.beq n n = true := Nat.beq_refl n
theorem joinTy_self (t : TypeId) : joinTy (some t) t = some t := by show (bif Nat.beq t t then some t else none) = some t; rw [nbeq_self]; rfl
theorem append_one {ty : TypeId} {m g i : Nat} {o : List UInt8} {c : SV} {sk : Sk} {l : List (Nat × AObj)} {k : SV → Heap → Prop} (ho : objL l i = some (.vec g 1 (o.map byS) ⟨true, some ty⟩)) (him : i < m) (hc : allOne c.cells = true) (hlen : o.length + 1 ≤ 140737488355328)
    (hk : k (.sl i (g + 1) 1 0 (o.length + 1) none) ⟨m + 1, (m, .vec 0 1 [c] sk) :: putO l i (.vec (g + 1) 1 (o.map byS ++ [c]) ⟨true, some ty⟩)⟩) :
    appendK ty 1 1 ⟨m + 1, (m, .vec 0 1 [c] sk) :: l⟩ (.sl i g 1 0 o.length none) (.sl m 0 1 0 1 (some 1)) k := by
  refine append_mv (elems_all objL_hd rfl) (by simp) (by simp [allOnes, hc]) (by rw [objL_nx (by omega)]; exact ho) (by simp) (by simp; omega) (by simp; omega) ?_
  rw [setO_eq]
  unfold putO
  rw [if_neg (by omega), joinTy_self]
  exact hk
theorem append_str {ty : TypeId} {m g i : Nat} {o s : List UInt8} {l : List (Nat × AObj)} {k : SV → Heap → Prop} (ho : objL l i = some (.vec g 1 (o.map byS) ⟨true, some ty⟩)) (h0 : 0 < s.length) (hlen : o.length + s.length ≤ 140737488355328)
    (hk : k (.sl i (g + 1) 1 0 (o.length + s.length) none) ⟨m, putO l i (.vec (g + 1) 1 (o.map byS ++ s.map byS) ⟨true, some ty⟩)⟩) :
    appendK ty 1 1 ⟨m, l⟩ (.sl i g 1 0 o.length none) (.str s) k := by
  refine append_mv (elems_str s) (by simpa using h0) (allOnes_by s) ho (by simp) (by simp; omega) (by simp; omega) ?_
  rw [setO_eq, List.length_map, joinTy_self]
  exact hk
/-- Behind a slice whose room is told, and too small: a new row. -/
theorem append_cap {ty : TypeId} {sz bytes m : Nat} {l : List (Nat × AObj)} {x : SV} {xs : List SV} {k : SV → Heap → Prop} {i g off len cp szo : Nat} {elems : List SV} {sk : Sk} (hx : Elems ⟨m, l⟩ sz x xs) (h0 : 0 < xs.length) (h1 : allOnes xs = true)
    (ho : objL l i = some (.vec g szo elems sk)) (hle : off + len ≤ elems.length) (hcp : cp < len + xs.length) (hl : (len + xs.length) * bytes ≤ 140737488355328) (hl' : len + xs.length ≤ 9223372036854775807)
    (hk : k (.sl m 0 sz 0 (len + xs.length) none) ⟨m + 1, (m, .vec 0 sz ((elems.drop off).take len ++ xs) ⟨true, some ty⟩) :: l⟩) : appendK ty sz bytes ⟨m, l⟩ (.sl i g sz off len (some cp)) x k := by
  unfold appendK
  refine hx _ ?_
  cases xs with
  | nil => simp at h0
  | cons x0 xr =>
    dsimp only
    rw [asr_iff]
    refine ⟨h1, ?_⟩
    show asr (Nat.beq sz sz) _
    rw [asr_iff]
    refine ⟨Nat.beq_refl _, ?_⟩
    rw [lookO_eq, ho]
    dsimp only
    rw [asr_iff]
    refine ⟨Nat.beq_refl _, ?_⟩
    have hb : Nat.ble (len + (x0 :: xr).length) cp = false := by
      cases hh : Nat.ble (len + (x0 :: xr).length) cp
      · rfl
      · have := Nat.le_of_ble_eq_true hh; omega
    rw [hb]
    show asr _ _
    rw [asr_iff]
    refine ⟨by rw [decide_eq_true hl, decide_eq_true hl']; rfl, ?_⟩
    rw [dropN_iff]
    refine ⟨by omega, ?_⟩
    rw [takeN_iff]
    refine ⟨by rw [List.length_drop]; omega, ?_⟩
    rw [appL_eq]
    exact hk
theorem append_lst {ty : TypeId} {m g i : Nat} {o s : List UInt8} {l : List (Nat × AObj)} {k : SV → Heap → Prop} (ho : objL l i = some (.vec g 1 (o.map byS) ⟨true, some ty⟩)) (h0 : 0 < s.length) (hlen : o.length + s.length ≤ 140737488355328)
    (hk : k (.sl i (g + 1) 1 0 (o.length + s.length) none) ⟨m, putO l i (.vec (g + 1) 1 (o.map byS ++ s.map byS) ⟨true, some ty⟩)⟩) :
    appendK ty 1 1 ⟨m, l⟩ (.sl i g 1 0 o.length none) (lstB s) k := by
  refine append_mv elems_bytes (by simpa using h0) (allOnes_by s) ho (by simp) (by simp; omega) (by simp; omega) ?_
  rw [setO_eq, List.length_map, joinTy_self]
  exact hk
/-! A builder in memory: its head; its bytes. -/
@[reducible] def bldO (tb bi j g n : Nat) : AObj := .vec 0 2 [.agg [.ref bi 0 0 0, .sl j g 1 0 n none]] ⟨false, some tb⟩
@[reducible] def bufO (ty g : Nat) (o : List UInt8) : AObj := .vec g 1 (o.map byS) ⟨true, some ty⟩
def bset (tb ty : Nat) (l : List (Nat × AObj)) (bi j g : Nat) (o : List UInt8) : List (Nat × AObj) := putO (putO l j (bufO ty g o)) bi (bldO tb bi j g o.length)
theorem bset_bld {tb ty : Nat} {l : List (Nat × AObj)} {bi j g : Nat} {o : List UInt8} {ob : AObj} (hb : objL l bi = some ob) (hne : bi ≠ j) : objL (bset tb ty l bi j g o) bi = some (bldO tb bi j g o.length) :=
  objL_put_same (o := ob) (by rw [objL_put_ne hne]; exact hb)
theorem bset_buf {tb ty : Nat} {l : List (Nat × AObj)} {bi j g : Nat} {o : List UInt8} {oj : AObj} (hj : objL l j = some oj) (hne : bi ≠ j) : objL (bset tb ty l bi j g o) j = some (bufO ty g o) := by
  unfold bset
  rw [objL_put_ne (fun h => hne h.symm)]
  exact objL_put_same hj
theorem bset_ne {tb ty : Nat} {l : List (Nat × AObj)} {bi j g i : Nat} {o : List UInt8} (h1 : i ≠ bi) (h2 : i ≠ j) : objL (bset tb ty l bi j g o) i = objL l i := by
  unfold bset
  rw [objL_put_ne h1, objL_put_ne h2]
theorem objLt_by {n : Nat} {s : List UInt8} {g sz : Nat} {sk : Sk} : objLt n (.vec g sz (s.map byS) sk) := by
  intro v hv
  obtain ⟨b, _, rfl⟩ := List.mem_map.1 hv
  rfl
theorem putO_self : ∀ {l : List (Nat × AObj)} {i : Nat} {o : AObj}, objL l i = some o → putO l i o = l
  | [], _, _, h => rfl
  | (s, q) :: r, i, o, h => by
    unfold putO
    unfold objL at h
    by_cases hs : s = i
    · rw [if_pos hs] at h ⊢; cases h; rfl
    · rw [if_neg hs] at h ⊢; rw [putO_self h]
theorem bset_bset {tb ty : Nat} {l : List (Nat × AObj)} {bi j g g' : Nat} {o o' : List UInt8} (hne : bi ≠ j) : bset tb ty (bset tb ty l bi j g o) bi j g' o' = bset tb ty l bi j g' o' := by
  unfold bset
  rw [putO_comm _ _ _ hne, putO_putO, putO_putO]
theorem bset_self {tb ty : Nat} {l : List (Nat × AObj)} {bi j g : Nat} {o : List UInt8} (hb : objL l bi = some (bldO tb bi j g o.length)) (hj : objL l j = some (bufO ty g o)) : bset tb ty l bi j g o = l := by
  unfold bset
  rw [putO_self hj, putO_self hb]
theorem ltH_nil {n : Nat} : ltH [] n := fun i o h => by cases h
theorem ltH_cons {n i : Nat} {o : AObj} {l : List (Nat × AObj)} (hi : i < n) (ho : objLt n o) (hl : ltH l n) : ltH ((i, o) :: l) n := fun j ob h => by
  unfold objL at h
  split at h
  · cases h; rename_i h; subst h; exact ⟨hi, ho⟩
  · exact hl j ob h
theorem objLt_all {n g sz : Nat} {elems : List SV} {sk : Sk} (h : elems.all (SV.lt 8 n) = true) : objLt n (.vec g sz elems sk) := fun v hv => List.all_eq_true.1 h v hv
theorem sub_skip {m i : Nat} {t ob : AObj} {l : List (Nat × AObj)} (hi : i < m) (h : objL l i = some ob) : objL ((m, t) :: l) i = some ob := by rw [objL_nx (by omega)]; exact h
theorem ltH_bset {tb ty : Nat} {l : List (Nat × AObj)} {m bi j g : Nat} {o : List UInt8} (hl : ltH l m) (hbm : bi < m) (hjm : j < m) (hne : bi ≠ j) : ltH (bset tb ty l bi j g o) m := by
  intro i ob h
  by_cases h1 : i = bi
  · subst h1
    cases hq : objL l i with
    | none =>
      unfold bset at h
      rw [objL_put, if_pos rfl, objL_put_ne hne, hq] at h
      cases h
    | some q =>
      rw [bset_bld hq hne] at h
      cases h
      refine ⟨hbm, fun v hv => ?_⟩
      simp only [List.mem_singleton] at hv
      subst hv
      simp [SV.lt, Nat.blt, hbm, hjm]
      omega
  · by_cases h2 : i = j
    · subst h2
      cases hq : objL l i with
      | none =>
        unfold bset at h
        rw [objL_put_ne h1, objL_put, if_pos rfl, hq] at h
        cases h
      | some q =>
        rw [bset_buf hq hne] at h
        cases h
        exact ⟨hjm, objLt_by⟩
    · rw [bset_ne h1 h2] at h
      exact hl i ob h
end Ab
namespace Go.Proofs.YtojponagjbobaaaGreatDoor
open Ab Go.RowKit
set_option maxRecDepth 100000
set_option linter.unusedVariables false
set_option linter.unusedSimpArgs false
set_option pp.maxSteps 3000
attribute [local irreducible] appendK
section
variable {m : Nat} {l : List (Nat × AObj)} {bi j g : Nat} {o : List UInt8} {R : AEnd → Heap → Prop}
theorem wb_app {c : UInt8} {x : Int} (hx : SV.int .u8 x = byS c) (hb : objL l bi = some (bldO 84 bi j g o.length)) (hj : objL l j = some (bufO 5 g o)) (hbm : bi < m) (hjm : j < m) (hne : bi ≠ j) (hl : ltH l m) (hlen : o.length + 1 ≤ 140737488355328)
    (hk : R (.ret .nili) ⟨m, bset 84 5 l bi j (g + 1) (o ++ [c])⟩) : ACall Tryz.prog 55 [.ref bi 0 0 0, .int .u8 x] ⟨m, l⟩ R := by
  refine ACall.cut (Nat.le_refl m) (call55 rfl ?_)
  have q1 : Nat.beq m bi = false := nbeq (by omega)
  have q2 : Nat.beq m j = false := nbeq (by omega)
  have q4 : (Nat.beq bi bi && Nat.beq 0 0 && (Nat.beq 0 0 && Nat.beq 0 0)) = true := by rw [nbeq_self]; rfl
  have q5 : objL (putO l j (.vec (g + 1) 1 (o.map byS ++ [SV.int .u8 x]) ⟨true, some 5⟩)) bi = some (bldO 84 bi j g o.length) := by rw [objL_put_ne hne]; exact hb
  iterate 40 (all_goals (try conv => whnf); all_goals (try first | with_reducible refine brY (by assumption) ?_ | with_reducible refine brN (by assumption) ?_ | (with_reducible refine brT ?_ ?_; · (simp only [Bool.and_eq_true, Bool.not_eq_true', decide_eq_true_eq, decide_eq_false_iff_not, beq_iff_eq, beq_eq_false_iff_ne, ne_eq] at *; omega)) | with_reducible refine br (fun _ => ?_) (fun _ => ?_) | with_reducible refine ⟨rfl, ?_⟩ | with_reducible refine ARound.succ ?_ | (refine call66 rfl ?_) | (with_reducible refine lookO_run hb ?_) | (with_reducible refine lookO_run hj ?_) | (with_reducible refine lookO_run q5 ?_) | (refine append_one hj hjm rfl hlen ?_) | (with_reducible refine setO_run ?_)))
  have e : putO (putO l j (.vec (g + 1) 1 (o.map byS ++ [SV.int .u8 x]) ⟨true, some 5⟩)) bi (.vec 0 2 [.agg [.ref bi 0 0 0, .sl j (g + 1) 1 0 (o.length + 1) none]] ⟨false, some 84⟩) = bset 84 5 l bi j (g + 1) (o ++ [c]) := by
    unfold bset; rw [hx, List.length_append, bufO, List.map_append]; rfl
  rw [e]
  exact ⟨_, fun i ob h => ⟨sub_skip (ltH_bset hl hbm hjm hne i ob h).1 h, ltH_bset hl hbm hjm hne i ob h⟩, .nili, hk⟩
theorem ws_app {s : List UInt8} (hb : objL l bi = some (bldO 84 bi j g o.length)) (hj : objL l j = some (bufO 5 g o)) (hbm : bi < m) (hjm : j < m) (hne : bi ≠ j) (hl : ltH l m) (hlen : o.length + s.length ≤ 140737488355328)
    (hk : ∀ g', R (.ret (.tup [.int .i64 s.length, .nili])) ⟨m, bset 84 5 l bi j g' (o ++ s)⟩) : ACall Tryz.prog 54 [.ref bi 0 0 0, .str s] ⟨m, l⟩ R := by
  refine ACall.cut (Nat.le_refl m) (call54 rfl ?_)
  have q4 : (Nat.beq bi bi && Nat.beq 0 0 && (Nat.beq 0 0 && Nat.beq 0 0)) = true := by rw [nbeq_self]; rfl
  have lit : LitEnd (.ret (.tup [.int .i64 s.length, .nili])) := lit2 (.int _ _) .nili
  by_cases h0 : s = []
  · subst h0
    iterate 40 (all_goals (try conv => whnf); all_goals (try first | with_reducible refine brY (by assumption) ?_ | with_reducible refine brN (by assumption) ?_ | (with_reducible refine brT ?_ ?_; · (simp only [Bool.and_eq_true, Bool.not_eq_true', decide_eq_true_eq, decide_eq_false_iff_not, beq_iff_eq, beq_eq_false_iff_ne, ne_eq] at *; omega)) | with_reducible refine br (fun _ => ?_) (fun _ => ?_) | with_reducible refine ⟨rfl, ?_⟩ | with_reducible refine ARound.succ ?_ | (refine call66 rfl ?_) | (with_reducible refine lookO_run hb ?_) | (with_reducible refine lookO_run hj ?_) | (refine append_noneS (elems_str []) hj ?_) | (with_reducible refine setO_run ?_)))
    have e : putO l bi (bldO 84 bi j g o.length) = bset 84 5 l bi j g (o ++ []) := by
      unfold bset; rw [List.append_nil, putO_self hj]
    refine ⟨bset 84 5 l bi j g (o ++ []), fun i ob h => ⟨?_, ltH_bset hl hbm hjm hne i ob h⟩, lit, hk g⟩
    rw [← e] at h
    exact h
  · have hpos : 0 < s.length := by cases s with | nil => exact absurd rfl h0 | cons c r => simp
    have q5 : objL (putO l j (.vec (g + 1) 1 (o.map byS ++ s.map byS) ⟨true, some 5⟩)) bi = some (bldO 84 bi j g o.length) := by rw [objL_put_ne hne]; exact hb
    iterate 40 (all_goals (try conv => whnf); all_goals (try first | with_reducible refine brY (by assumption) ?_ | with_reducible refine brN (by assumption) ?_ | (with_reducible refine brT ?_ ?_; · (simp only [Bool.and_eq_true, Bool.not_eq_true', decide_eq_true_eq, decide_eq_false_iff_not, beq_iff_eq, beq_eq_false_iff_ne, ne_eq] at *; omega)) | with_reducible refine br (fun _ => ?_) (fun _ => ?_) | with_reducible refine ⟨rfl, ?_⟩ | with_reducible refine ARound.succ ?_ | (refine call66 rfl ?_) | (with_reducible refine lookO_run hb ?_) | (with_reducible refine lookO_run hj ?_) | (with_reducible refine lookO_run q5 ?_) | (refine append_str hj hpos hlen ?_) | (with_reducible refine setO_run ?_)))
    have e : putO (putO l j (.vec (g + 1) 1 (o.map byS ++ s.map byS) ⟨true, some 5⟩)) bi (.vec 0 2 [.agg [.ref bi 0 0 0, .sl j (g + 1) 1 0 (o.length + s.length) none]] ⟨false, some 84⟩) = bset 84 5 l bi j (g + 1) (o ++ s) := by
      unfold bset; rw [List.length_append, bufO, List.map_append]
    refine ⟨bset 84 5 l bi j (g + 1) (o ++ s), fun i ob h => ⟨?_, ltH_bset hl hbm hjm hne i ob h⟩, lit, hk _⟩
    rw [← e] at h
    exact h
theorem bs_str (hb : objL l bi = some (bldO 84 bi j g o.length)) (hj : objL l j = some (bufO 5 g o)) (h0 : 0 < o.length) (hlen : o.length ≤ 9223372036854775807)
    (hk : ∀ l', R (.ret (.str o)) ⟨m, l'⟩) : ACall Tryz.prog 56 [.ref bi 0 0 0] ⟨m, l⟩ R := by
  refine call56 rfl ?_
  have q1 : Nat.blt 0 o.length = true := by rw [Nat.blt, Nat.ble_eq]; exact h0
  have q2 : (Nat.beq g g && (Nat.beq 0 0 && Nat.beq 0 0) && (Nat.beq 1 1 && tyIs (Sk.ty ⟨true, some 5⟩) 5) && (decide (0 < (o.length : Int)) && decide ((o.length : Int) ≤ 9223372036854775807))) = true := by
    rw [nbeq_self, decide_eq_true (show 0 < (o.length : Int) by omega), decide_eq_true (show (o.length : Int) ≤ 9223372036854775807 by omega)]; rfl
  have q3 : Nat.beq g g = true := nbeq_self g
  have q4 : Nat.beq j j = true := nbeq_self j
  iterate 40 (all_goals (try conv => whnf); all_goals (try first | with_reducible refine brY (by assumption) ?_ | with_reducible refine brN (by assumption) ?_ | (with_reducible refine brT ?_ ?_; · (simp only [Bool.and_eq_true, Bool.not_eq_true', decide_eq_true_eq, decide_eq_false_iff_not, beq_iff_eq, beq_eq_false_iff_ne, ne_eq] at *; omega)) | with_reducible refine br (fun _ => ?_) (fun _ => ?_) | with_reducible refine ⟨rfl, ?_⟩ | with_reducible refine ARound.succ ?_ | (with_reducible refine lookO_run hb ?_) | (with_reducible refine lookO_run hj ?_) | (refine takeN_all (by simp) ?_) | (refine bytesK_run ?_) | (with_reducible refine setO_run ?_)))
  exact hk _
end
theorem bs_empty {R : AEnd → Heap → Prop} (hk : R (.ret (.str [])) ⟨1, [(0, .vec 0 2 [.agg [.nilp, .nils]] ⟨false, some 84⟩)]⟩) :
    ACall Tryz.prog 56 [.ref 0 0 0 0] ⟨1, [(0, .vec 0 2 [.agg [.nilp, .nils]] ⟨false, some 84⟩)]⟩ R := by
  refine call56 rfl ?_
  iterate 20 (all_goals (try conv => whnf); all_goals (try first | with_reducible refine brY (by assumption) ?_ | with_reducible refine brN (by assumption) ?_ | (with_reducible refine brT ?_ ?_; · (simp only [Bool.and_eq_true, Bool.not_eq_true', decide_eq_true_eq, decide_eq_false_iff_not, beq_iff_eq, beq_eq_false_iff_ne, ne_eq] at *; omega)) | with_reducible refine br (fun _ => ?_) (fun _ => ?_) | with_reducible refine ⟨rfl, ?_⟩ | with_reducible refine ARound.succ ?_))
  exact hk
end Go.Proofs.YtojponagjbobaaaGreatDoor
namespace Ab
open Go
set_option linter.unusedVariables false
set_option linter.unusedSimpArgs false
/-- A text with a row in the place of each byte of a kind. -/
def repB (b : UInt8) (nw : List UInt8) : List UInt8 → List UInt8
  | [] => []
  | c :: r => (if c = b then nw else [c]) ++ repB b nw r
theorem repB_app (b : UInt8) (nw : List UInt8) : ∀ s t : List UInt8, repB b nw (s ++ t) = repB b nw s ++ repB b nw t
  | [], t => rfl
  | c :: r, t => by simp only [List.cons_append, repB, repB_app b nw r t, List.append_assoc]
theorem repB_none (b : UInt8) (nw : List UInt8) : ∀ s : List UInt8, s.count b = 0 → repB b nw s = s
  | [], _ => rfl
  | c :: r, h => by
    have hc : c ≠ b := fun e => by rw [e, List.count_cons_self] at h; omega
    rw [List.count_cons_of_ne hc] at h
    rw [repB, if_neg hc, repB_none b nw r h, List.singleton_append]
theorem repB_len (b : UInt8) {nw : List UInt8} {k : Nat} (hk : nw.length ≤ k) (h1 : 1 ≤ k) : ∀ s : List UInt8, (repB b nw s).length ≤ k * s.length
  | [] => by simp [repB]
  | c :: r => by
    have := repB_len b hk h1 r
    rw [repB, List.length_append, List.length_cons, Nat.mul_add, Nat.mul_one]
    split
    · omega
    · rw [List.length_singleton]; omega
theorem index_split (c : UInt8) : ∀ s : List UInt8, 0 < s.count c → ∃ p r, s = p ++ c :: r ∧ p.count c = 0 ∧ Lib.indexByte s c = (p.length : Int)
  | [], h => by simp at h
  | d :: s, h => by
    by_cases hd : d = c
    · subst hd
      exact ⟨[], s, rfl, rfl, by simp [Lib.indexByte]⟩
    · rw [List.count_cons_of_ne hd] at h
      obtain ⟨p, r, h1, h2, h3⟩ := index_split c s h
      refine ⟨d :: p, r, by rw [h1]; rfl, by rw [List.count_cons_of_ne hd, h2], ?_⟩
      rw [Lib.indexByte, if_neg (by simpa using hd), h3, if_neg (by simp only [beq_iff_eq]; omega), List.length_cons]
      omega
end Ab
namespace Go.Proofs.YtojponagjbobaaaGreatDoor
open Ab Go.RowKit
set_option maxRecDepth 100000
set_option linter.unusedVariables false
set_option linter.unusedSimpArgs false
set_option pp.maxSteps 3000
theorem indexByte_any (s : List UInt8) (b : UInt8) : PCall Tryz.prog 97 [.str s, .int .u8 b.toNat] (.int .i64 (Lib.indexByte s b)) := by
  refine pcall_of (lits2 (.str _) (.int _ _)) (call97 rfl ?_)
  iterate 3 (all_goals (try conv => whnf); all_goals (try first | with_reducible refine brY (by assumption) ?_ | with_reducible refine brN (by assumption) ?_ | (with_reducible refine brT ?_ ?_; · (simp only [Bool.and_eq_true, Bool.not_eq_true', decide_eq_true_eq, decide_eq_false_iff_not, beq_iff_eq, beq_eq_false_iff_ne, ne_eq] at *; omega)) | with_reducible refine br (fun _ => ?_) (fun _ => ?_) | with_reducible refine ⟨rfl, ?_⟩ | with_reducible refine ARound.succ ?_))
  refine leaf ?_ (.int _ _)
  have e : (Int.toNat (b.toNat : Int)).toUInt8 = b := by rw [Int.toNat_natCast]; simp
  show SV.int .i64 (Lib.indexByte s (Int.toNat (b.toNat : Int)).toUInt8) = _
  rw [e]
theorem index_any (s : List UInt8) (b : UInt8) : PCall Tryz.prog 78 [.str s, .str [b]] (.int .i64 (Lib.indexByte s b)) := by
  have h1 : PCall Tryz.prog 91 [.str s, .str [b]] (.int .i64 (Lib.indexByte s b)) := by
    refine pcall_of (lits2 (.str _) (.str _)) (call91 rfl ?_)
    iterate 12 (all_goals (try conv => whnf); all_goals (try first | with_reducible refine brY (by assumption) ?_ | with_reducible refine brN (by assumption) ?_ | (with_reducible refine brT ?_ ?_; · (simp only [Bool.and_eq_true, Bool.not_eq_true', decide_eq_true_eq, decide_eq_false_iff_not, beq_iff_eq, beq_eq_false_iff_ne, ne_eq] at *; omega)) | with_reducible refine br (fun _ => ?_) (fun _ => ?_) | with_reducible refine ⟨rfl, ?_⟩ | with_reducible refine ARound.succ ?_ | with_reducible refine PCall.call (indexByte_any _ _) ?_))
    · rename_i h
      have h := beq_iff_eq.1 h
      subst h
      exact leaf (by simp [Lib.indexByte]) (.int _ _)
    · exact leaf rfl (.int _ _)
  refine pcall_of (lits2 (.str _) (.str _)) (call78 rfl ?_)
  iterate 3 (all_goals (try conv => whnf); all_goals (try first | with_reducible refine brY (by assumption) ?_ | with_reducible refine brN (by assumption) ?_ | (with_reducible refine brT ?_ ?_; · (simp only [Bool.and_eq_true, Bool.not_eq_true', decide_eq_true_eq, decide_eq_false_iff_not, beq_iff_eq, beq_eq_false_iff_ne, ne_eq] at *; omega)) | with_reducible refine br (fun _ => ?_) (fun _ => ?_) | with_reducible refine ⟨rfl, ?_⟩ | with_reducible refine ARound.succ ?_ | with_reducible refine PCall.call (h1) ?_))
  exact leaf rfl (.int _ _)
theorem grow_new {n : Int} {R : AEnd → Heap → Prop} (h0 : 0 < n) (hn : n ≤ 140737488355328) (hk : R (.ret (.tup [])) ⟨2, [(1, bufO 5 0 []), (0, bldO 84 0 1 0 0)]⟩) :
    ACall Tryz.prog 53 [.ref 0 0 0 0, .int .i64 n] ⟨1, [(0, .vec 0 2 [.agg [.nilp, .nils]] ⟨false, some 84⟩)]⟩ R := by
  refine call53 rfl ?_
  have q1 : decide (n < 0) = false := decide_eq_false (by omega)
  have e0 : IntKind.i64.wrap (0 - 0) = 0 := by decide
  have q2 : decide (IntKind.i64.wrap (0 - 0) < n) = true := by rw [e0]; exact decide_eq_true h0
  have e1 : IntKind.i64.wrap (IntKind.i64.wrap (2 * 0) + n) = n := by
    rw [show IntKind.i64.wrap (2 * 0) = 0 by decide, Int.zero_add, w64 (by omega) (by omega)]
  have q3 : (decide (0 ≤ IntKind.i64.wrap (IntKind.i64.wrap (2 * 0) + n)) && decide (IntKind.i64.wrap (IntKind.i64.wrap (2 * 0) + n) ≤ 140737488355328)) = true := by
    rw [e1, decide_eq_true (show 0 ≤ n by omega), decide_eq_true hn]; rfl
  iterate 30 (all_goals (try conv => whnf); all_goals (try first | with_reducible refine brY (by assumption) ?_ | with_reducible refine brN (by assumption) ?_ | (with_reducible refine brT ?_ ?_; · (simp only [Bool.and_eq_true, Bool.not_eq_true', decide_eq_true_eq, decide_eq_false_iff_not, beq_iff_eq, beq_eq_false_iff_ne, ne_eq] at *; omega)) | with_reducible refine br (fun _ => ?_) (fun _ => ?_) | with_reducible refine ⟨rfl, ?_⟩ | with_reducible refine ARound.succ ?_ | (refine call66 rfl ?_) | (refine call67 rfl ?_)))
  exact hk
theorem count_any (s : List UInt8) (b : UInt8) : PCall Tryz.prog 77 [.str s, .str [b]] (.int .i64 (s.count b)) := by
  refine pcall_of (lits2 (.str _) (.str _)) (call77 rfl ?_)
  iterate 8 (all_goals (try conv => whnf); all_goals (try first | with_reducible refine brY (by assumption) ?_ | with_reducible refine brN (by assumption) ?_ | (with_reducible refine brT ?_ ?_; · (simp only [Bool.and_eq_true, Bool.not_eq_true', decide_eq_true_eq, decide_eq_false_iff_not, beq_iff_eq, beq_eq_false_iff_ne, ne_eq] at *; omega)) | with_reducible refine br (fun _ => ?_) (fun _ => ?_) | with_reducible refine ⟨rfl, ?_⟩ | with_reducible refine ARound.succ ?_))
  refine leaf ?_ (.int _ _)
  have e : (Int.toNat (([b].getD (Int.toNat 0) 0).toNat : Int)).toUInt8 = b := by rw [Int.toNat_natCast]; simp
  show SV.int .i64 ((Lib.countByte s (Int.toNat (([b].getD (Int.toNat 0) 0).toNat : Int)).toUInt8 : Nat) : Int) = _
  rw [e]; rfl
theorem ltH2 {g n : Nat} {o : List UInt8} : ltH [(1, bufO 5 g o), (0, bldO 84 0 1 g n)] 2 := by
  intro i ob h
  unfold objL at h
  split at h
  · cases h; rename_i h; subst h; exact ⟨by omega, objLt_by⟩
  · unfold objL at h
    split at h
    · cases h; rename_i h; subst h; exact ⟨by omega, fun v hv => by simp only [List.mem_singleton] at hv; subst hv; rfl⟩
    · cases h
theorem ws2 {g : Nat} {o s : List UInt8} {R : AEnd → Heap → Prop} (hlen : o.length + s.length ≤ 140737488355328)
    (hk : ∀ g', R (.ret (.tup [.int .i64 s.length, .nili])) ⟨2, [(1, bufO 5 g' (o ++ s)), (0, bldO 84 0 1 g' (o ++ s).length)]⟩) :
    ACall Tryz.prog 54 [.ref 0 0 0 0, .str s] ⟨2, [(1, bufO 5 g o), (0, bldO 84 0 1 g o.length)]⟩ R :=
  ws_app (bi := 0) (j := 1) rfl rfl (by omega) (by omega) (by omega) ltH2 hlen hk
/-- Replacing: the state of its loop. -/
structure RpS (b : UInt8) (nw s : List UInt8) where
  k : Nat
  p : List UInt8
  r : List UInt8
  g : Nat
  hs : s = p ++ r
  hk : k + r.count b = s.count b
theorem replace_any {b : UInt8} {nw s : List UInt8} (hne : nw ≠ [b]) (h1 : 1 ≤ nw.length) (h4 : nw.length ≤ 4) (hs : s.length ≤ 1099511627776) :
    PCall Tryz.prog 61 [.str s, .str [b], .str nw, .int .i64 (-1)] (.str (repB b nw s)) := by
  refine pcall_of (lits4 (.str _) (.str _) (.str _) (.int _ _)) (call61 rfl ?_)
  have q1 : ([b] == nw) = false := beq_eq_false_iff_ne.2 fun h => hne h.symm
  by_cases hc : s.count b = 0
  · have q2 : (((s.count b : Nat) : Int) == 0) = true := by rw [beq_iff_eq]; omega
    iterate 12 (all_goals (try conv => whnf); all_goals (try first | with_reducible refine brY (by assumption) ?_ | with_reducible refine brN (by assumption) ?_ | (with_reducible refine brT ?_ ?_; · (simp only [Bool.and_eq_true, Bool.not_eq_true', decide_eq_true_eq, decide_eq_false_iff_not, beq_iff_eq, beq_eq_false_iff_ne, ne_eq] at *; omega)) | with_reducible refine br (fun _ => ?_) (fun _ => ?_) | with_reducible refine ⟨rfl, ?_⟩ | with_reducible refine ARound.succ ?_ | with_reducible refine PCall.call (count_any _ _) ?_))
    exact leaf (by rw [repB_none b nw s hc]) (.str _)
  have q2 : (((s.count b : Nat) : Int) == 0) = false := by rw [beq_eq_false_iff_ne]; omega
  have hcl : s.count b ≤ s.length := List.count_le_length
  have hm : s.count b * (nw.length - 1) ≤ s.length * 3 := Nat.mul_le_mul hcl (by omega)
  have em : ((s.count b : Nat) : Int) * ((nw.length : Int) - 1) = ((s.count b * (nw.length - 1) : Nat) : Int) := by
    rw [Int.natCast_mul, show ((nw.length - 1 : Nat) : Int) = (nw.length : Int) - 1 by omega]
  have en : IntKind.i64.wrap ((s.length : Int) + IntKind.i64.wrap (((s.count b : Nat) : Int) * IntKind.i64.wrap ((nw.length : Int) - 1))) = ((s.length + s.count b * (nw.length - 1) : Nat) : Int) := by
    rw [w64 (x := (nw.length : Int) - 1) (by omega) (by omega), em, w64 (x := ((s.count b * (nw.length - 1) : Nat) : Int)) (by omega) (by omega), w64 (by omega) (by omega)]
    omega
  have hpos : 0 < s.length := by omega
  have gr : ∀ {R : AEnd → Heap → Prop}, R (.ret (.tup [])) ⟨2, [(1, bufO 5 0 []), (0, bldO 84 0 1 0 0)]⟩ → ACall Tryz.prog 53 [.ref 0 0 0 0, .int .i64 (IntKind.i64.wrap ((s.length : Int) + IntKind.i64.wrap (((s.count b : Nat) : Int) * IntKind.i64.wrap ((nw.length : Int) - 1))))] ⟨1, [(0, .vec 0 2 [.agg [.nilp, .nils]] ⟨false, some 84⟩)]⟩ R := fun h => by
    rw [en]; exact grow_new (by omega) (by omega) h
  iterate 20 (all_goals (try conv => whnf); all_goals (try first | with_reducible refine brY (by assumption) ?_ | with_reducible refine brN (by assumption) ?_ | (with_reducible refine brT ?_ ?_; · (simp only [Bool.and_eq_true, Bool.not_eq_true', decide_eq_true_eq, decide_eq_false_iff_not, beq_iff_eq, beq_eq_false_iff_ne, ne_eq] at *; omega)) | with_reducible refine br (fun _ => ?_) (fun _ => ?_) | with_reducible refine ⟨rfl, ?_⟩ | with_reducible refine ARound.succ ?_ | with_reducible refine PCall.call (count_any _ _) ?_ | (refine gr ?_)))
  refine loop_ind (σ := RpS b nw s) (fun q => [(0, SV.str s), (1, SV.str [b]), (2, SV.str nw), (3, SV.int IntKind.i64 ((s.count b : Nat) : Int)), (8, SV.str []), (22, SV.bool false), (9, SV.int IntKind.i64 ((s.count b : Nat) : Int)), (28, SV.bool false), (36, SV.bool true), (10, SV.ref 0 0 0 0), (11, SV.int IntKind.i64 q.p.length), (51, SV.bool true), (52, SV.int IntKind.i64 ((s.count b : Nat) : Int)), (53, SV.int IntKind.i64 q.k)])
    (fun q => ⟨2, [(1, bufO 5 q.g (repB b nw q.p)), (0, bldO 84 0 1 q.g (repB b nw q.p).length)]⟩) (fun q => s.count b - q.k) ?_ ⟨0, [], s, 0, rfl, by omega⟩
  rintro ⟨k, p, r, g, hpr, hk⟩
  dsimp only
  have hpl : p.length + r.length = s.length := by rw [hpr, List.length_append]
  have hrp := repB_len b (nw := nw) (k := 4) h4 (by omega) p
  by_cases hlt : k < s.count b
  · have hd : decide ((k : Int) < ((s.count b : Nat) : Int)) = true := decide_eq_true (by omega)
    obtain ⟨q, r', e1, e2, e3⟩ := index_split b r (by omega)
    have hql : q.length + (r'.length + 1) = r.length := by rw [e1]; simp
    have es : (s.drop (p.length : Int).toNat).take ((s.length : Int).toNat - (p.length : Int).toNat) = r := by
      rw [Int.toNat_natCast, Int.toNat_natCast, List.take_of_length_le (by simp), hpr, List.drop_left]
    have ci : PCall Tryz.prog 78 [.str ((s.drop (p.length : Int).toNat).take ((s.length : Int).toNat - (p.length : Int).toNat)), .str [b]] (.int .i64 q.length) := by
      rw [es, ← e3]; exact index_any _ _
    have ej : IntKind.i64.wrap ((p.length : Int) + (q.length : Int)) = ((p.length + q.length : Nat) : Int) := by rw [w64 (by omega) (by omega)]; omega
    have e5 : IntKind.i64.wrap (IntKind.i64.wrap ((p.length : Int) + (q.length : Int)) + (([b].length : Nat) : Int)) = ((p.length + (q.length + 1) : Nat) : Int) := by rw [List.length_singleton, ej, w64 (by omega) (by omega)]; omega
    have e8 : repB b nw (p ++ (q ++ [b])) = repB b nw p ++ q ++ nw := by
      rw [repB_app, repB_app, repB_none b nw q e2, List.append_assoc]
      simp [repB]
    have eq : (s.drop (p.length : Int).toNat).take ((IntKind.i64.wrap ((p.length : Int) + (q.length : Int))).toNat - (p.length : Int).toNat) = q := by
      rw [ej, Int.toNat_natCast, Int.toNat_natCast, Nat.add_sub_cancel_left, hpr, List.drop_left, e1, List.take_left]
    have e7 : IntKind.i64.wrap ((k : Int) + 1) = ((k + 1 : Nat) : Int) := w64add (by omega)
    iterate 30 (all_goals (try conv => whnf); all_goals (try first | with_reducible refine brY (by assumption) ?_ | with_reducible refine brN (by assumption) ?_ | (with_reducible refine brT ?_ ?_; · (simp only [Bool.and_eq_true, Bool.not_eq_true', decide_eq_true_eq, decide_eq_false_iff_not, beq_iff_eq, beq_eq_false_iff_ne, ne_eq] at *; omega)) | with_reducible refine br (fun _ => ?_) (fun _ => ?_) | with_reducible refine ⟨rfl, ?_⟩ | with_reducible refine ARound.succ ?_ | with_reducible refine PCall.call (ci) ?_ | (rw [eq]; refine ws2 (by omega) (fun g1 => ?_)) | (refine ws2 (by rw [List.length_append]; omega) (fun g2 => ?_))))
    refine ⟨⟨k + 1, p ++ (q ++ [b]), r', g2, by rw [hpr, e1]; simp, by rw [e1, List.count_append, List.count_cons_self, e2] at hk; omega⟩, by dsimp only; omega, ?_, ?_⟩
    · rw [e7, e5]; simp only [List.length_append, List.length_singleton]
    · dsimp only; rw [e8]
  · have hd : decide ((k : Int) < ((s.count b : Nat) : Int)) = false := decide_eq_false (by omega)
    have hr0 : r.count b = 0 := by have : r.count b ≤ s.count b := by rw [hpr, List.count_append]; omega
                                   omega
    have es : (s.drop (p.length : Int).toNat).take ((s.length : Int).toNat - (p.length : Int).toNat) = r := by
      rw [Int.toNat_natCast, Int.toNat_natCast, List.take_of_length_le (by simp), hpr, List.drop_left]
    have e8 : repB b nw s = repB b nw p ++ r := by rw [hpr, repB_app, repB_none b nw r hr0]
    have hp0 : 0 < (repB b nw p ++ r).length := by
      rw [← e8]
      obtain ⟨q, r', e1, e2, e3⟩ := index_split b s (by omega)
      rw [e1, repB_app, repB, if_pos rfl]
      simp only [List.length_append]; omega
    iterate 30 (all_goals (try conv => whnf); all_goals (try first | with_reducible refine brY (by assumption) ?_ | with_reducible refine brN (by assumption) ?_ | (with_reducible refine brT ?_ ?_; · (simp only [Bool.and_eq_true, Bool.not_eq_true', decide_eq_true_eq, decide_eq_false_iff_not, beq_iff_eq, beq_eq_false_iff_ne, ne_eq] at *; omega)) | with_reducible refine br (fun _ => ?_) (fun _ => ?_) | with_reducible refine ⟨rfl, ?_⟩ | with_reducible refine ARound.succ ?_ | (rw [es]; refine ws2 (by omega) (fun g1 => ?_)) | (refine bs_str (g := g1) (o := repB b nw p ++ r) rfl rfl hp0 (by rw [List.length_append]; omega) (fun l' => ?_))))
    exact leaf (by rw [e8]) (.str _)
theorem replaceAll_any {b : UInt8} {nw s : List UInt8} (hne : nw ≠ [b]) (h1 : 1 ≤ nw.length) (h4 : nw.length ≤ 4) (hs : s.length ≤ 1099511627776) :
    PCall Tryz.prog 40 [.str s, .str [b], .str nw] (.str (repB b nw s)) := by
  refine pcall_of (lits3 (.str _) (.str _) (.str _)) (call40 rfl ?_)
  iterate 4 (all_goals (try conv => whnf); all_goals (try first | with_reducible refine brY (by assumption) ?_ | with_reducible refine brN (by assumption) ?_ | (with_reducible refine brT ?_ ?_; · (simp only [Bool.and_eq_true, Bool.not_eq_true', decide_eq_true_eq, decide_eq_false_iff_not, beq_iff_eq, beq_eq_false_iff_ne, ne_eq] at *; omega)) | with_reducible refine br (fun _ => ?_) (fun _ => ?_) | with_reducible refine ⟨rfl, ?_⟩ | with_reducible refine ARound.succ ?_ | with_reducible refine PCall.call (replace_any hne h1 h4 hs) ?_))
  exact leaf rfl (.str _)
end Go.Proofs.YtojponagjbobaaaGreatDoor
namespace Go.Proofs.YtojponagjbobaaaGreatDoor
open Ab Go.RowKit
set_option maxRecDepth 100000
set_option linter.unusedVariables false
set_option linter.unusedSimpArgs false
set_option maxHeartbeats 4000000
set_option pp.maxSteps 3000
attribute [local irreducible] appendK allLtK
theorem append_el {ty : TypeId} {m g i n : Nat} {elems : List SV} {c : SV} {sk : Sk} {l : List (Nat × AObj)} {k : SV → Heap → Prop} (ho : objL l i = some (.vec g 1 elems ⟨true, some ty⟩)) (hn : n = elems.length) (him : i < m) (hc : allOne c.cells = true) (hlen : n + 1 ≤ 140737488355328)
    (hk : k (.sl i (g + 1) 1 0 (n + 1) none) ⟨m + 1, (m, .vec 0 1 [c] sk) :: putO l i (.vec (g + 1) 1 (elems ++ [c]) ⟨true, some ty⟩)⟩) :
    appendK ty 1 1 ⟨m + 1, (m, .vec 0 1 [c] sk) :: l⟩ (.sl i g 1 0 n none) (.sl m 0 1 0 1 (some 1)) k := by
  refine append_mv (elems_all objL_hd rfl) (by simp) (by simp [allOnes, hc]) (by rw [objL_nx (by omega)]; exact ho) hn (by simp; omega) (by simp; omega) ?_
  rw [setO_eq]
  unfold putO
  rw [if_neg (by omega), joinTy_self]
  exact hk
theorem lt_by {n : Nat} {s : List UInt8} : ∀ v ∈ s.map byS, SV.lt 8 n v = true := by
  intro v hv
  obtain ⟨b, _, rfl⟩ := List.mem_map.1 hv
  rfl
theorem lt_one {n : Nat} {u : SV} (h : SV.lt 8 n u = true) : ∀ v ∈ [u], SV.lt 8 n v = true := by
  intro v hv
  simp only [List.mem_singleton] at hv
  subst hv
  exact h
theorem lt_by1 {n : Nat} {s : List UInt8} {c : Int} : ∀ v ∈ s.map byS ++ [SV.int .u8 c], SV.lt 8 n v = true := by
  intro v hv
  rcases List.mem_append.1 hv with h | h
  · exact lt_by v h
  · exact lt_one rfl v h
theorem lt_by2 {n : Nat} {s : List UInt8} {c d : Int} : ∀ v ∈ (s.map byS ++ [SV.int .u8 c]) ++ [SV.int .u8 d], SV.lt 8 n v = true := by
  intro v hv
  rcases List.mem_append.1 hv with h | h
  · exact lt_by1 v h
  · exact lt_one rfl v h
structure QxS (t : List UInt8) where
  i : Nat
  g : Nat
  h1 : 0 < i
  hi : i ≤ t.length
def quoB (t : List UInt8) : List UInt8 := repB 39 [39, 39] t
theorem quo_take {t : List UInt8} {i : Nat} (h : i < t.length) : quoB (t.take (i + 1)) = quoB (t.take i) ++ (if t.getD i 0 = 39 then [39, 39] else [t.getD i 0]) := by
  rw [take_succ_getD h]
  show repB _ _ _ = _
  rw [repB_app]
  congr 1
  by_cases hc : t.getD i 0 = 39
  · rw [hc, if_pos rfl]; rfl
  · rw [if_neg hc, repB, if_neg hc]; rfl
theorem bytesK_run2 {s : List UInt8} {xs : List SV} {k : List UInt8 → Prop} (e : xs = s.map byS) (hk : k s) : bytesK xs k := by rw [e]; exact bytesK_run hk
theorem quoted_any {t : List UInt8} (ht : t.length ≤ 1000000) : PCall Tryz.prog 41 [.str t] (.str ([39] ++ quoB t ++ [39])) := by
  refine pcall_of (lits1 (.str _)) (call41 rfl ?_)
  have eb : ∀ c : UInt8, ((c.toNat : Int) == 39) = decide (c = 39) := fun c => by
    by_cases h : c = 39
    · subst h; rfl
    · have : c.toNat ≠ 39 := fun e => h (UInt8.toNat_inj.1 e)
      rw [decide_eq_false h, beq_eq_false_iff_ne]; omega
  by_cases h0 : t = []
  · subst h0
    iterate 24 (all_goals (try conv => whnf); all_goals (try first | with_reducible refine brY (by assumption) ?_ | with_reducible refine brN (by assumption) ?_ | (with_reducible refine brT ?_ ?_; · (simp only [Bool.and_eq_true, Bool.not_eq_true', decide_eq_true_eq, decide_eq_false_iff_not, beq_iff_eq, beq_eq_false_iff_ne, ne_eq] at *; omega)) | with_reducible refine br (fun _ => ?_) (fun _ => ?_) | with_reducible refine ⟨rfl, ?_⟩ | with_reducible refine ARound.succ ?_ | (refine append_cap (xs := [byS 39]) (elems_all objL_hd rfl) (by decide) rfl rfl (by decide) (by decide) (by decide) (by decide) ?_) | with_reducible refine loop_rounds 2 ?_))
    exact leaf rfl (.str _)
  have hpos : 0 < t.length := by cases t with | nil => exact absurd rfl h0 | cons c r => simp
  have hrl : ∀ i, (quoB (t.take i)).length ≤ 2000000 := fun i => by
    have := repB_len 39 (nw := [39, 39]) (k := 2) (by decide) (by omega) (t.take i)
    have h2 : (t.take i).length ≤ t.length := by rw [List.length_take]; omega
    show (repB 39 [39, 39] (t.take i)).length ≤ _
    omega
  iterate 6 (all_goals (try conv => whnf); all_goals (try first | with_reducible refine brY (by assumption) ?_ | with_reducible refine brN (by assumption) ?_ | (with_reducible refine brT ?_ ?_; · (simp only [Bool.and_eq_true, Bool.not_eq_true', decide_eq_true_eq, decide_eq_false_iff_not, beq_iff_eq, beq_eq_false_iff_ne, ne_eq] at *; omega)) | with_reducible refine br (fun _ => ?_) (fun _ => ?_) | with_reducible refine ⟨rfl, ?_⟩ | with_reducible refine ARound.succ ?_))
  refine loop_two (σ := QxS t) (fun s => [(0, SV.str t), (2, SV.str []), (3, SV.sl 2 s.g 1 0 (39 :: quoB (t.take s.i)).length none), (4, SV.int IntKind.i64 s.i)])
    (fun s => ⟨3, [(2, bufO 5 s.g (39 :: quoB (t.take s.i))), (1, .vec 0 1 [byS (t.getD 0 0)] ⟨false, some 5⟩), (0, .vec 0 1 [byS 39] ⟨false, some 5⟩)]⟩) (fun s => t.length - s.i) t.length 3 (by show 0 + 1 ≤ 3; omega) ?_ ?_
  · have hd : decide ((0 : Int) < ((t.length : Nat) : Int)) = true := decide_eq_true (by omega)
    have e71 : IntKind.i64.wrap (0 + 1) = ((1 : Nat) : Int) := by decide
    have hr := quo_take (t := t) (i := 0) hpos
    by_cases hc : t.getD 0 0 = 39
    · have q : (((t.getD (Int.toNat 0) 0).toNat : Int) == 39) = true := by rw [show Int.toNat 0 = 0 from rfl, eb]; exact decide_eq_true hc
      rw [if_pos hc] at hr
      iterate 30 (all_goals (try conv => whnf); all_goals (try first | with_reducible refine brY (by assumption) ?_ | with_reducible refine brN (by assumption) ?_ | (with_reducible refine brT ?_ ?_; · (simp only [Bool.and_eq_true, Bool.not_eq_true', decide_eq_true_eq, decide_eq_false_iff_not, beq_iff_eq, beq_eq_false_iff_ne, ne_eq] at *; omega)) | with_reducible refine br (fun _ => ?_) (fun _ => ?_) | with_reducible refine ⟨rfl, ?_⟩ | with_reducible refine ARound.succ ?_ | (refine append_cap (xs := [byS (t.getD 0 0)]) (elems_all objL_hd rfl) (by simp) rfl rfl (by simp) (by simp) (by simp) (by simp) ?_) | (refine append_one (o := [39, t.getD 0 0]) (i := 2) (c := byS 39) rfl (by omega) rfl (by simp) ?_) | (refine allLtK_of lt_by ?_) | (refine allLtK_of (lt_one rfl) ?_) | (refine allLtK_of (lt_by (s := [39, t.getD 0 0, 39])) ?_)))
      refine ⟨⟨1, 1, by omega, hpos⟩, by dsimp only; omega, ?_, ?_⟩
      · rw [e71, hr]; rfl
      · dsimp only; rw [hr, show Int.toNat 0 = 0 from rfl, hc]; rfl
    · have q : (((t.getD (Int.toNat 0) 0).toNat : Int) == 39) = false := by rw [show Int.toNat 0 = 0 from rfl, eb]; exact decide_eq_false hc
      rw [if_neg hc] at hr
      iterate 30 (all_goals (try conv => whnf); all_goals (try first | with_reducible refine brY (by assumption) ?_ | with_reducible refine brN (by assumption) ?_ | (with_reducible refine brT ?_ ?_; · (simp only [Bool.and_eq_true, Bool.not_eq_true', decide_eq_true_eq, decide_eq_false_iff_not, beq_iff_eq, beq_eq_false_iff_ne, ne_eq] at *; omega)) | with_reducible refine br (fun _ => ?_) (fun _ => ?_) | with_reducible refine ⟨rfl, ?_⟩ | with_reducible refine ARound.succ ?_ | (refine append_cap (xs := [byS (t.getD 0 0)]) (elems_all objL_hd rfl) (by simp) rfl rfl (by simp) (by simp) (by simp) (by simp) ?_)))
      refine ⟨⟨1, 0, by omega, hpos⟩, by dsimp only; omega, ?_, ?_⟩
      · rw [e71, hr]; rfl
      · dsimp only; rw [hr]; rfl
  · rintro ⟨i, g, h1, hi⟩
    dsimp only
    have qg : Nat.beq g g = true := nbeq_self g
    have hr1 := hrl i
    by_cases hil : i < t.length
    · have hd : decide ((i : Int) < ((t.length : Nat) : Int)) = true := decide_eq_true (by omega)
      have e71 : IntKind.i64.wrap ((i : Int) + 1) = ((i + 1 : Nat) : Int) := w64add (by omega)
      have hr := quo_take (t := t) (i := i) hil
      have gi := Int.toNat_natCast i
      by_cases hc : t.getD i 0 = 39
      · have q : (((t.getD (i : Int).toNat 0).toNat : Int) == 39) = true := by rw [gi, eb]; exact decide_eq_true hc
        rw [if_pos hc] at hr
        have hx : SV.int .u8 ((t.getD (i : Int).toNat 0).toNat : Int) = byS 39 := by rw [gi, hc]
        iterate 40 (all_goals (try conv => whnf); all_goals (try first | with_reducible refine brY (by assumption) ?_ | with_reducible refine brN (by assumption) ?_ | (with_reducible refine brT ?_ ?_; · (simp only [Bool.and_eq_true, Bool.not_eq_true', decide_eq_true_eq, decide_eq_false_iff_not, beq_iff_eq, beq_eq_false_iff_ne, ne_eq] at *; omega)) | with_reducible refine br (fun _ => ?_) (fun _ => ?_) | with_reducible refine ⟨rfl, ?_⟩ | with_reducible refine ARound.succ ?_ | (refine append_el (i := 2) (elems := (39 :: quoB (t.take i)).map byS) rfl (by simp) (by omega) rfl (by simp only [List.length_cons]; omega) ?_) | (refine append_el (i := 2) (elems := (39 :: quoB (t.take i)).map byS ++ [SV.int .u8 ((t.getD (i : Int).toNat 0).toNat : Int)]) rfl (by simp) (by omega) rfl (by simp only [List.length_cons]; omega) ?_) | (refine allLtK_of lt_by1 ?_) | (refine allLtK_of lt_by2 ?_) | (refine allLtK_of (lt_one rfl) ?_)))
        refine ⟨⟨i + 1, g + 1 + 1, by omega, hil⟩, by dsimp only; omega, ?_, ?_⟩
        · rw [e71, hr]; simp
        · dsimp only; rw [hx, hr]; simp
      · have q : (((t.getD (i : Int).toNat 0).toNat : Int) == 39) = false := by rw [gi, eb]; exact decide_eq_false hc
        rw [if_neg hc] at hr
        iterate 40 (all_goals (try conv => whnf); all_goals (try first | with_reducible refine brY (by assumption) ?_ | with_reducible refine brN (by assumption) ?_ | (with_reducible refine brT ?_ ?_; · (simp only [Bool.and_eq_true, Bool.not_eq_true', decide_eq_true_eq, decide_eq_false_iff_not, beq_iff_eq, beq_eq_false_iff_ne, ne_eq] at *; omega)) | with_reducible refine br (fun _ => ?_) (fun _ => ?_) | with_reducible refine ⟨rfl, ?_⟩ | with_reducible refine ARound.succ ?_ | (refine append_el (i := 2) (elems := (39 :: quoB (t.take i)).map byS) rfl (by simp) (by omega) rfl (by simp only [List.length_cons]; omega) ?_) | (refine allLtK_of lt_by1 ?_) | (refine allLtK_of lt_by2 ?_) | (refine allLtK_of (lt_one rfl) ?_)))
        refine ⟨⟨i + 1, g + 1, by omega, hil⟩, by dsimp only; omega, ?_, ?_⟩
        · rw [e71, hr]; simp
        · dsimp only; rw [hr]; simp
    · have hd : decide ((i : Int) < ((t.length : Nat) : Int)) = false := decide_eq_false (by omega)
      have ht : t.take i = t := List.take_of_length_le (by omega)
      rw [ht] at hr1
      rw [ht]
      have qg1 : Nat.beq (g + 1) (g + 1) = true := nbeq_self _
      iterate 20 (all_goals (try conv => whnf); all_goals (try first | with_reducible refine brY (by assumption) ?_ | with_reducible refine brN (by assumption) ?_ | (with_reducible refine brT ?_ ?_; · (simp only [Bool.and_eq_true, Bool.not_eq_true', decide_eq_true_eq, decide_eq_false_iff_not, beq_iff_eq, beq_eq_false_iff_ne, ne_eq] at *; omega)) | with_reducible refine br (fun _ => ?_) (fun _ => ?_) | with_reducible refine ⟨rfl, ?_⟩ | with_reducible refine ARound.succ ?_ | (refine append_one (o := 39 :: quoB t) (i := 2) (c := byS 39) rfl (by omega) rfl (by simp only [List.length_cons]; omega) ?_) | (refine takeN_all (by simp) ?_) | (refine bytesK_run2 (s := quoB t ++ [39]) (by simp) ?_)))
      refine leaf ?_ (.str _)
      simp
end Go.Proofs.YtojponagjbobaaaGreatDoor
namespace Go.Proofs.YtojponagjbobaaaGreatDoor
open Ab Go.RowKit
set_option maxRecDepth 1000000
def tabsU : List (Nat × Tab) := [(37, t37), (38, t38), (53, t53), (54, t54), (55, t55), (56, t56), (57, t57), (59, t59), (66, t66), (67, t67), (68, t68), (69, t69), (70, t70), (71, t71), (81, t81), (82, t82), (92, t92)]
theorem tabsUOk : TabsOk Tryz.prog tabsU := .cons tab37 (.cons tab38 (.cons tab53 (.cons tab54 (.cons tab55 (.cons tab56 (.cons tab57 (.cons tab59 (.cons tab66 (.cons tab67 (.cons tab68 (.cons tab69 (.cons tab70 (.cons tab71 (.cons tab81 (.cons tab82 (.cons tab92 (.nil)))))))))))))))))
theorem formatBool_true : PCall Tryz.prog 38 [.bool true] (.str [116, 114, 117, 101]) := pcall_lvl mixed tabsUOk 30 (lits1 (.bool _)) (.str _) (Eq.mpr (show _ = (AEnd.ret (SV.str [116, 114, 117, 101]) = AEnd.ret (SV.str [116, 114, 117, 101])) by kernel_rfl) rfl)
theorem toUpper_true : PCall Tryz.prog 37 [.str [116, 114, 117, 101]] (.str [84, 82, 85, 69]) := pcall_lvl mixed tabsUOk 30 (lits1 (.str _)) (.str _) (Eq.mpr (show _ = (AEnd.ret (SV.str [84, 82, 85, 69]) = AEnd.ret (SV.str [84, 82, 85, 69])) by kernel_rfl) rfl)
theorem formatBool_false : PCall Tryz.prog 38 [.bool false] (.str [102, 97, 108, 115, 101]) := pcall_lvl mixed tabsUOk 30 (lits1 (.bool _)) (.str _) (Eq.mpr (show _ = (AEnd.ret (SV.str [102, 97, 108, 115, 101]) = AEnd.ret (SV.str [102, 97, 108, 115, 101])) by kernel_rfl) rfl)
theorem toUpper_false : PCall Tryz.prog 37 [.str [102, 97, 108, 115, 101]] (.str [70, 65, 76, 83, 69]) := pcall_lvl mixed tabsUOk 30 (lits1 (.str _)) (.str _) (Eq.mpr (show _ = (AEnd.ret (SV.str [70, 65, 76, 83, 69]) = AEnd.ret (SV.str [70, 65, 76, 83, 69])) by kernel_rfl) rfl)
end Go.Proofs.YtojponagjbobaaaGreatDoor
namespace Ab
open Go Go.RowKit
theorem pcall_below {P : Program} {f : FuncId} {args : List SV} {v : SV} (hargs : ∀ a ∈ args, LitV a) (hl : LitV v)
    (hc : ∀ (Im : Nat → Prop) (w : World) (xs : Array Value), GlobOk Im w → (∀ b, Im b → b < w.heap.size) → xs.size = args.length → (∀ (i : Nat) (u : SV) (x : Value), args[i]? = some u → xs[i]? = some x → VP Im w u x) →
      Calls P f xs w fun e w' => (∃ x, e = .returned x ∧ VP Im w' v x) ∧ Below w.heap.size w w') : PCall P f args v := by
  refine pcall_of hargs ⟨fun c w xs hr hs hv => ?_⟩
  refine (hc c.Im w xs hr.glob hr.im hs fun i u x a b => (hargs _ (List.mem_of_getElem? a)).vp (hv i u x a b)).mono fun e w' ⟨⟨x, he, hx⟩, hb⟩ => ?_
  have hh : ∀ b, c.Im b → w'.heap[b]? = w.heap[b]? := fun b h => hb.block b (hr.im b h)
  refine ⟨c, ⟨0, []⟩, .ret v, ⟨v, rfl, .lit hl⟩, ⟨(fun i o ho => by cases ho), (fun i o ho => by cases ho), (fun i j o p ho => by cases ho), (fun i o ho => by cases ho), fun b h => Nat.lt_of_lt_of_le (hr.im b h) hb.size, hr.glob.mono (fun _ h => h) hh⟩,
    ⟨hb.os, hb.tape, hb.output, hb.size, fun b h _ => hb.block b h, fun b h => ?_, fun _ h => h, fun _ h => .inl h, Nat.le_refl _, (fun i o' _ ho => by cases ho), fun i o' ho => by cases ho⟩, x, he, .pure hx⟩
  unfold World.shape?
  rw [hb.block b h]
theorem VP.str_inv' {Im : Nat → Prop} {w : World} {s : List UInt8} {x : Value} (h : VP Im w (.str s) x) : x = .string ⟨s.toArray⟩ := by cases h; rfl
theorem VP.int_inv' {Im : Nat → Prop} {w : World} {k : IntKind} {n : Int} {x : Value} (h : VP Im w (.int k n) x) : x = .int k n := by cases h; rfl
/-- A table's cells. -/
theorem GlobOk.tab {Im : Nat → Prop} {w : World} (h : GlobOk Im w) {g : Nat} (hne : globTab g ≠ []) : ∃ C ty fz, w.heap[g]? = some (.cells C ty fz) ∧ C = ((globTab g).map fun p => Value.int p.1 p.2).toArray := by
  obtain ⟨_, C, ty, fz, h1, h2, h3⟩ := h g (.agg ((globTab g).map fun p => .int p.1 p.2)) (by unfold globSV; split; exact absurd (by assumption) hne; rfl)
  refine ⟨C, ty, fz, h1, ?_⟩
  simp only [SV.cells, List.length_map] at h2
  apply Array.ext
  · simpa using h2.symm
  · intro i a b
    have hi : i < (globTab g).length := by omega
    have := h3 i (.int ((globTab g)[i]).1 ((globTab g)[i]).2) C[i] (by simp [SV.cells, hi]) (by simp)
    rw [VP.int_inv' this]
    simp
theorem GlobOk.var {Im : Nat → Prop} {w : World} (h : GlobOk Im w) {P : Program} {n : String} {g : Nat} (hne : globTab g ≠ []) (hg : P.globalNamed n = some g) : w.var? P n = some ((globTab g).map fun p => Value.int p.1 p.2).toArray := by
  obtain ⟨C, ty, fz, h1, rfl⟩ := h.tab hne
  unfold World.var?
  rw [hg, Option.bind_some, h1]
theorem GlobOk.cell {Im : Nat → Prop} {w : World} (h : GlobOk Im w) {g j : Nat} {p : IntKind × Int} (hj : (globTab g)[j]? = some p) : w.cell? ⟨g, j, none⟩ = some (.int p.1 p.2) := by
  obtain ⟨C, ty, fz, h1, rfl⟩ := h.tab (g := g) (by rintro h0; rw [h0] at hj; simp at hj)
  unfold World.cell?
  rw [h1]
  simp [hj]
theorem args1 {Im : Nat → Prop} {w : World} {xs : Array Value} {a : SV} {x : Value} (hs : xs.size = 1) (hv : ∀ (i : Nat) (u : SV) (y : Value), [a][i]? = some u → xs[i]? = some y → VP Im w u y) (ha : ∀ y, VP Im w a y → y = x) : xs = #[x] := by
  apply Array.ext
  · simpa using hs
  · intro i h1 h2
    obtain rfl : i = 0 := by simp at h2; omega
    exact ha _ (hv 0 a _ rfl (by simp [h1]))
theorem args2 {Im : Nat → Prop} {w : World} {xs : Array Value} {a b : SV} {x y : Value} (hs : xs.size = 2) (hv : ∀ (i : Nat) (u : SV) (y : Value), [a, b][i]? = some u → xs[i]? = some y → VP Im w u y) (ha : ∀ z, VP Im w a z → z = x) (hb : ∀ z, VP Im w b z → z = y) : xs = #[x, y] := by
  apply Array.ext
  · simpa using hs
  · intro i h1 h2
    rcases i with _ | _ | i
    · exact ha _ (hv 0 a _ rfl (by simp [h1]))
    · exact hb _ (hv 1 b _ rfl (by simp [h1]))
    · exfalso; simp at h2; omega
theorem below_grow {B : Nat} {a w : World} (os : Array Obj) (h : Below B a w) (hB : B ≤ w.heap.size) : Below B a (Sort.grow w os) := by
  refine ⟨h.os, h.tape, h.output, ?_, fun k hk => ?_⟩
  · show a.heap.size ≤ (w.heap ++ os).size
    have := h.size
    simp only [Array.size_append]; omega
  · show (w.heap ++ os)[k]? = _
    rw [Array.getElem?_append_left (by omega)]
    exact h.block k hk
end Ab
namespace Go.Proofs
open Go.Shelf
def Tryz.lays196_ren : Go.Shelf.Ren := ⟨fun | 196 => 36 | 259 => 52 | n => n, fun | 9 => 9 | 4 => 4 | 3 => 3 | 5 => 5 | 12 => 12 | 119 => 76 | 0 => 0 | 46 => 80 | 139 => 79 | 138 => 78 | 53 => 60 | n => n, fun | 3 => 0 | 4 => 1 | n => n⟩
theorem Tryz.lays196 : Go.Proofs.Lays.n196 Tryz.prog Tryz.lays196_ren := {
  mixed := by kernel_rfl
  f196 := Tryz.func36.trans (congrArg some (by kernel_rfl))
  f259 := Tryz.func52.trans (congrArg some (by kernel_rfl))
  t0 := Tryz.underlying0
  a0 := Tryz.isAgg0
  z0 := Tryz.sizeOf0
  v0 := Tryz.zeroValue0
  t3 := Tryz.underlying3
  a3 := Tryz.isAgg3
  z3 := Tryz.sizeOf3
  v3 := Tryz.zeroValue3
  t4 := Tryz.underlying4
  a4 := Tryz.isAgg4
  z4 := Tryz.sizeOf4
  v4 := Tryz.zeroValue4
  t5 := Tryz.underlying5
  a5 := Tryz.isAgg5
  z5 := Tryz.sizeOf5
  v5 := Tryz.zeroValue5
  t9 := Tryz.underlying9
  a9 := Tryz.isAgg9
  z9 := Tryz.sizeOf9
  v9 := Tryz.zeroValue9
  t12 := Tryz.underlying12
  a12 := Tryz.isAgg12
  z12 := Tryz.sizeOf12
  v12 := Tryz.zeroValue12
  t46 := Tryz.underlying80
  a46 := Tryz.isAgg80
  z46 := Tryz.sizeOf80
  v46 := Tryz.zeroValue80
  t53 := Tryz.underlying60
  a53 := Tryz.isAgg60
  z53 := Tryz.sizeOf60
  v53 := Tryz.zeroValue60
  t119 := Tryz.underlying76
  a119 := Tryz.isAgg76
  z119 := Tryz.sizeOf76
  t138 := Tryz.underlying78
  a138 := Tryz.isAgg78
  z138 := Tryz.sizeOf78
  v138 := Tryz.zeroValue78
  t139 := Tryz.underlying79
  a139 := Tryz.isAgg79
  z139 := Tryz.sizeOf79
  v139 := Tryz.zeroValue79
  g3 := by kernel_rfl
  g4 := by kernel_rfl }
def Tryz.lays173_ren : Go.Shelf.Ren := ⟨fun | 173 => 39 | 246 => 60 | 283 => 73 | 284 => 74 | 285 => 75 | 286 => 76 | 129 => 85 | 317 => 84 | 318 => 86 | 319 => 87 | 320 => 88 | 337 => 95 | 338 => 96 | n => n, fun | 2 => 2 | 3 => 3 | 9 => 9 | 4 => 4 | 171 => 106 | 0 => 0 | 53 => 60 | 37 => 82 | 5 => 5 | 173 => 109 | 212 => 120 | 51 => 121 | 20 => 20 | 213 => 122 | 46 => 80 | 232 => 134 | 233 => 135 | n => n, fun | 17 => 3 | 18 => 5 | 19 => 6 | n => n⟩
theorem Tryz.lays173 : Go.Proofs.LaysM.n173 Tryz.prog Tryz.lays173_ren := {
  mixed := by kernel_rfl
  f129 := Tryz.func85.trans (congrArg some (by kernel_rfl))
  f173 := Tryz.func39.trans (congrArg some (by kernel_rfl))
  f246 := Tryz.func60.trans (congrArg some (by kernel_rfl))
  f283 := Tryz.func73.trans (congrArg some (by kernel_rfl))
  f284 := Tryz.func74.trans (congrArg some (by kernel_rfl))
  f285 := Tryz.func75.trans (congrArg some (by kernel_rfl))
  f286 := Tryz.func76.trans (congrArg some (by kernel_rfl))
  f317 := Tryz.func84.trans (congrArg some (by kernel_rfl))
  f318 := Tryz.func86.trans (congrArg some (by kernel_rfl))
  f319 := Tryz.func87.trans (congrArg some (by kernel_rfl))
  f320 := Tryz.func88.trans (congrArg some (by kernel_rfl))
  f337 := Tryz.func95.trans (congrArg some (by kernel_rfl))
  f338 := Tryz.func96.trans (congrArg some (by kernel_rfl))
  t0 := Tryz.underlying0
  a0 := Tryz.isAgg0
  z0 := Tryz.sizeOf0
  v0 := Tryz.zeroValue0
  t2 := Tryz.underlying2
  a2 := Tryz.isAgg2
  z2 := Tryz.sizeOf2
  v2 := Tryz.zeroValue2
  t3 := Tryz.underlying3
  a3 := Tryz.isAgg3
  z3 := Tryz.sizeOf3
  v3 := Tryz.zeroValue3
  t4 := Tryz.underlying4
  a4 := Tryz.isAgg4
  z4 := Tryz.sizeOf4
  v4 := Tryz.zeroValue4
  t5 := Tryz.underlying5
  a5 := Tryz.isAgg5
  z5 := Tryz.sizeOf5
  v5 := Tryz.zeroValue5
  t9 := Tryz.underlying9
  a9 := Tryz.isAgg9
  z9 := Tryz.sizeOf9
  v9 := Tryz.zeroValue9
  t20 := Tryz.underlying20
  a20 := Tryz.isAgg20
  z20 := Tryz.sizeOf20
  v20 := Tryz.zeroValue20
  t37 := Tryz.underlying82
  a37 := Tryz.isAgg82
  z37 := Tryz.sizeOf82
  v37 := Tryz.zeroValue82
  t46 := Tryz.underlying80
  a46 := Tryz.isAgg80
  z46 := Tryz.sizeOf80
  v46 := Tryz.zeroValue80
  t51 := Tryz.underlying121
  a51 := Tryz.isAgg121
  z51 := Tryz.sizeOf121
  v51 := Tryz.zeroValue121
  t53 := Tryz.underlying60
  a53 := Tryz.isAgg60
  z53 := Tryz.sizeOf60
  v53 := Tryz.zeroValue60
  t171 := Tryz.underlying106
  a171 := Tryz.isAgg106
  z171 := Tryz.sizeOf106
  v171 := Tryz.zeroValue106
  t173 := Tryz.underlying109
  a173 := Tryz.isAgg109
  z173 := Tryz.sizeOf109
  v173 := Tryz.zeroValue109
  t212 := Tryz.underlying120
  a212 := Tryz.isAgg120
  z212 := Tryz.sizeOf120
  v212 := Tryz.zeroValue120
  t213 := Tryz.underlying122
  a213 := Tryz.isAgg122
  z213 := Tryz.sizeOf122
  t232 := Tryz.underlying134
  a232 := Tryz.isAgg134
  z232 := Tryz.sizeOf134
  v232 := Tryz.zeroValue134
  t233 := Tryz.underlying135
  a233 := Tryz.isAgg135
  z233 := Tryz.sizeOf135
  v233 := Tryz.zeroValue135
  g17 := by kernel_rfl
  g18 := by kernel_rfl
  g19 := by kernel_rfl
  i0 := by kernel_rfl
  i2 := by kernel_rfl
  i3 := by kernel_rfl
  i4 := by kernel_rfl
  i5 := by kernel_rfl
  i9 := by kernel_rfl
  i20 := by kernel_rfl
  i37 := by kernel_rfl
  i46 := by kernel_rfl
  i51 := by kernel_rfl
  i53 := by kernel_rfl
  i171 := by kernel_rfl
  i173 := by kernel_rfl
  i212 := by kernel_rfl
  i232 := by kernel_rfl
  i233 := by kernel_rfl
  m17 := by kernel_rfl
  m18 := by kernel_rfl
  m19 := by kernel_rfl }
end Go.Proofs
namespace Go.Proofs.YtojponagjbobaaaGreatDoor
open Ab Go.RowKit
set_option maxRecDepth 100000
set_option linter.unusedVariables false
theorem below_drawn {B : Nat} {a w : World} (h : Below B a w) (q : Nat) : Below B a (w.drewN q) := ⟨h.os, h.tape, h.output, h.size, h.block⟩
theorem formatInt_any {n : Int} (h0 : -9223372036854775808 ≤ n) (h1 : n ≤ 9223372036854775807) : PCall Tryz.prog 39 [.int .i64 n, .int .i64 10] (.str (Lib.itoa n)) := by
  refine pcall_below (lits2 (.int _ _) (.int _ _)) (.str _) fun Im w xs hg him hs hv => ?_
  obtain rfl := args2 hs hv (fun _ h => h.int_inv') (fun _ h => h.int_inv')
  have htab : Lib.TabIs Tryz.prog w "internal/strconv.uint64pow10" .u64 Lib.pow10Tab := hg.var (g := 3) (by decide) (by kernel_rfl)
  refine (Any.strconv_FormatInt_10 Tryz.lays173 n h0 h1 w htab).mono fun e w' h => ?_
  obtain ⟨rfl, k, os, rfl⟩ := h
  have hb := below_drawn (Below.refl w.heap.size w) k
  exact ⟨⟨_, rfl, .str _⟩, below_grow os hb hb.size⟩
theorem first_tab : ∀ c : Fin 256, (globTab 0)[c.val]? = some (IntKind.u8, (Lib.firstT c.val : Int)) := by decide +kernel
theorem acc_tab : ∀ i : Fin 16, (globTab 1)[2 * i.val]? = some (IntKind.u8, (Lib.accLo i.val : Int)) ∧ (globTab 1)[2 * i.val + 1]? = some (IntKind.u8, (Lib.accHi i.val : Int)) := by decide +kernel
theorem utf8_tabs {Im : Nat → Prop} {w : World} (hg : GlobOk Im w) : Lib.Utf8Tabs 0 1 w :=
  ⟨fun c hc => hg.cell (first_tab ⟨c, hc⟩), fun i hi => ⟨hg.cell (acc_tab ⟨i, hi⟩).1, hg.cell (acc_tab ⟨i, hi⟩).2⟩⟩
theorem validString_any {s : List UInt8} (hs : s.length ≤ 9223372036854775807) : PCall Tryz.prog 36 [.str s] (.bool (Lib.validD s)) := by
  refine pcall_below (lits1 (.str _)) (.bool _) fun Im w xs hg him hz hv => ?_
  obtain rfl := args1 hz hv (fun _ h => h.str_inv')
  refine (Any.utf8_ValidString Tryz.lays196 ⟨s.toArray⟩ w (by simpa [ByteArray.size] using hs) (utf8_tabs hg)).mono fun e w' h => ?_
  obtain ⟨rfl, hb⟩ := h
  exact ⟨⟨_, rfl, .bool _⟩, hb⟩
end Go.Proofs.YtojponagjbobaaaGreatDoor
namespace Go.Proofs.YtojponagjbobaaaGreatDoor
open Ab Go.RowKit
set_option maxRecDepth 100000
set_option linter.unusedVariables false
set_option linter.unusedSimpArgs false
set_option maxHeartbeats 4000000
set_option pp.maxSteps 3000
theorem okV_forms {v : V} (h : okV v = true) : v = vnull ∨ (∃ b, v = vbool b) ∨ (∃ n, v = vint n) ∨ ∃ t, t.length ≤ 64 ∧ v = ⟨3, 0, t⟩ := by
  obtain ⟨k, n, t⟩ := v
  unfold okV at h
  dsimp only at h
  (repeat' split at h) <;> simp at h
  · rename_i hk; subst hk; obtain ⟨rfl, rfl⟩ := h; exact .inl rfl
  · rename_i hk; subst hk; obtain ⟨rfl | rfl, rfl⟩ := h
    · exact .inr (.inl ⟨false, rfl⟩)
    · exact .inr (.inl ⟨true, rfl⟩)
  · rename_i hk; subst hk; subst h; exact .inr (.inr (.inl ⟨n, rfl⟩))
  · rename_i hk; subst hk; obtain ⟨rfl, ht⟩ := h; exact .inr (.inr (.inr ⟨t, ht, rfl⟩))
def litV (v : V) : List UInt8 × Int :=
  if okV v = false then ([], 2) else if Lib.validD v.t = false then ([], 2)
  else if v.k = 0 then ([78, 85, 76, 76], 0)
  else if v.k = 1 then (if v.n = 1 then [84, 82, 85, 69] else [70, 65, 76, 83, 69], 0)
  else if v.k = 3 then ([39] ++ quoB v.t ++ [39], 0)
  else (Lib.itoa v.n, 0)
def litS (v : V) : SV := .tup [.str (litV v).1, .int .i64 (litV v).2]
theorem litS_lit (v : V) : LitV (litS v) := lit2 (.str _) (.int _ _)
theorem quoB_len {t : List UInt8} (h : t.length ≤ 64) : (quoB t).length ≤ 128 := by
  have := repB_len 39 (nw := [39, 39]) (k := 2) (by decide) (by omega) t
  show (repB 39 [39, 39] t).length ≤ _
  omega
theorem chk_no {v : V} (h : okV v = false) : (chk v != 0) = true := by unfold chk; rw [if_neg (by rw [h]; decide)]; rfl
theorem chk_yes {v : V} (h : okV v = true) : (chk v != 0) = false := by unfold chk; rw [if_pos h]; rfl
theorem valid_nil : Lib.validD [] = true := by decide
theorem literal_any {v : V} (iv : v.In) : PCall Tryz.prog 13 [v.sv] (litS v) := by
  refine pcall_of (lits1 (V.lit _)) (call13 rfl ?_)
  cases ho : okV v
  · have hc := chk_no ho
    iterate 12 (all_goals (try conv => whnf); all_goals (try first | with_reducible refine brY (by assumption) ?_ | with_reducible refine brN (by assumption) ?_ | (with_reducible refine brT ?_ ?_; · (simp only [Bool.and_eq_true, Bool.not_eq_true', decide_eq_true_eq, decide_eq_false_iff_not, beq_iff_eq, beq_eq_false_iff_ne, ne_eq] at *; omega)) | with_reducible refine br (fun _ => ?_) (fun _ => ?_) | with_reducible refine ⟨rfl, ?_⟩ | with_reducible refine ARound.succ ?_ | with_reducible refine PCall.call (check_any v) ?_))
    exact leaf (by unfold litS litV; rw [if_pos ho]) (litS_lit _)
  · have hc := chk_yes ho
    rcases okV_forms ho with rfl | ⟨b, rfl⟩ | ⟨n, rfl⟩ | ⟨t, ht, rfl⟩
    · iterate 20 (all_goals (try conv => whnf); all_goals (try first | with_reducible refine brY (by assumption) ?_ | with_reducible refine brN (by assumption) ?_ | (with_reducible refine brT ?_ ?_; · (simp only [Bool.and_eq_true, Bool.not_eq_true', decide_eq_true_eq, decide_eq_false_iff_not, beq_iff_eq, beq_eq_false_iff_ne, ne_eq] at *; omega)) | with_reducible refine br (fun _ => ?_) (fun _ => ?_) | with_reducible refine ⟨rfl, ?_⟩ | with_reducible refine ARound.succ ?_ | with_reducible refine PCall.call (check_any vnull) ?_))
      exact leaf (by rfl) (litS_lit _)
    · have hb1 : PCall Tryz.prog 38 [.bool (isT (vbool false))] _ := formatBool_false
      have hb2 : PCall Tryz.prog 38 [.bool (isT (vbool true))] _ := formatBool_true
      cases b
      · iterate 24 (all_goals (try conv => whnf); all_goals (try first | with_reducible refine brY (by assumption) ?_ | with_reducible refine brN (by assumption) ?_ | (with_reducible refine brT ?_ ?_; · (simp only [Bool.and_eq_true, Bool.not_eq_true', decide_eq_true_eq, decide_eq_false_iff_not, beq_iff_eq, beq_eq_false_iff_ne, ne_eq] at *; omega)) | with_reducible refine br (fun _ => ?_) (fun _ => ?_) | with_reducible refine ⟨rfl, ?_⟩ | with_reducible refine ARound.succ ?_ | with_reducible refine PCall.call (check_any (vbool false)) ?_ | with_reducible refine PCall.call (true_any (vbool false)) ?_ | with_reducible refine PCall.call (hb1) ?_ | with_reducible refine PCall.call (toUpper_false) ?_))
        exact leaf (by rfl) (litS_lit _)
      · iterate 24 (all_goals (try conv => whnf); all_goals (try first | with_reducible refine brY (by assumption) ?_ | with_reducible refine brN (by assumption) ?_ | (with_reducible refine brT ?_ ?_; · (simp only [Bool.and_eq_true, Bool.not_eq_true', decide_eq_true_eq, decide_eq_false_iff_not, beq_iff_eq, beq_eq_false_iff_ne, ne_eq] at *; omega)) | with_reducible refine br (fun _ => ?_) (fun _ => ?_) | with_reducible refine ⟨rfl, ?_⟩ | with_reducible refine ARound.succ ?_ | with_reducible refine PCall.call (check_any (vbool true)) ?_ | with_reducible refine PCall.call (true_any (vbool true)) ?_ | with_reducible refine PCall.call (hb2) ?_ | with_reducible refine PCall.call (toUpper_true) ?_))
        exact leaf (by rfl) (litS_lit _)
    · have hf := formatInt_any iv.lo iv.hi
      iterate 24 (all_goals (try conv => whnf); all_goals (try first | with_reducible refine brY (by assumption) ?_ | with_reducible refine brN (by assumption) ?_ | (with_reducible refine brT ?_ ?_; · (simp only [Bool.and_eq_true, Bool.not_eq_true', decide_eq_true_eq, decide_eq_false_iff_not, beq_iff_eq, beq_eq_false_iff_ne, ne_eq] at *; omega)) | with_reducible refine br (fun _ => ?_) (fun _ => ?_) | with_reducible refine ⟨rfl, ?_⟩ | with_reducible refine ARound.succ ?_ | with_reducible refine PCall.call (check_any (vint n)) ?_ | with_reducible refine PCall.call (hf) ?_))
      refine leaf ?_ (litS_lit _)
      unfold litS litV
      rw [if_neg (by rw [ho]; decide), if_neg (by rw [show (vint n).t = [] from rfl, valid_nil]; decide)]
      rfl
    · have hv := validString_any (s := t) (by omega)
      have hr : PCall Tryz.prog 40 [.str t, .str [39], .str [39, 39]] (.str (quoB t)) := replaceAll_any (b := 39) (nw := [39, 39]) (s := t) (by decide) (by decide) (by decide) (by omega)
      have hq := quoB_len ht
      have d1 : decide ([(39 : UInt8)].length + (quoB t).length ≤ 9223372036854775807) = true := decide_eq_true (by simp only [List.length_cons, List.length_nil]; omega)
      have d2 : decide (([(39 : UInt8)] ++ quoB t).length + [(39 : UInt8)].length ≤ 9223372036854775807) = true := decide_eq_true (by simp only [List.length_append, List.length_cons, List.length_nil]; omega)
      cases hV : Lib.validD t
      · have hV' : (!Lib.validD t) = true := by rw [hV]; rfl
        iterate 24 (all_goals (try conv => whnf); all_goals (try first | with_reducible refine brY (by assumption) ?_ | with_reducible refine brN (by assumption) ?_ | (with_reducible refine brT ?_ ?_; · (simp only [Bool.and_eq_true, Bool.not_eq_true', decide_eq_true_eq, decide_eq_false_iff_not, beq_iff_eq, beq_eq_false_iff_ne, ne_eq] at *; omega)) | with_reducible refine br (fun _ => ?_) (fun _ => ?_) | with_reducible refine ⟨rfl, ?_⟩ | with_reducible refine ARound.succ ?_ | with_reducible refine PCall.call (check_any ⟨3, 0, t⟩) ?_ | with_reducible refine PCall.call (hv) ?_))
        exact leaf (by unfold litS litV; rw [if_neg (by rw [ho]; decide), if_pos hV]) (litS_lit _)
      · have hV' : (!Lib.validD t) = false := by rw [hV]; rfl
        iterate 24 (all_goals (try conv => whnf); all_goals (try first | with_reducible refine brY (by assumption) ?_ | with_reducible refine brN (by assumption) ?_ | (with_reducible refine brT ?_ ?_; · (simp only [Bool.and_eq_true, Bool.not_eq_true', decide_eq_true_eq, decide_eq_false_iff_not, beq_iff_eq, beq_eq_false_iff_ne, ne_eq] at *; omega)) | with_reducible refine br (fun _ => ?_) (fun _ => ?_) | with_reducible refine ⟨rfl, ?_⟩ | with_reducible refine ARound.succ ?_ | with_reducible refine PCall.call (check_any ⟨3, 0, t⟩) ?_ | with_reducible refine PCall.call (hv) ?_ | with_reducible refine PCall.call (hr) ?_))
        exact leaf (by unfold litS litV; rw [if_neg (by rw [ho]; decide), if_neg (by rw [hV]; decide)]; rfl) (litS_lit _)
theorem refLiteral_any {v : V} (iv : v.In) : PCall Tryz.prog 14 [v.sv] (litS v) := by
  refine pcall_of (lits1 (V.lit _)) (call14 rfl ?_)
  cases ho : okV v
  · have hc := chk_no ho
    iterate 12 (all_goals (try conv => whnf); all_goals (try first | with_reducible refine brY (by assumption) ?_ | with_reducible refine brN (by assumption) ?_ | (with_reducible refine brT ?_ ?_; · (simp only [Bool.and_eq_true, Bool.not_eq_true', decide_eq_true_eq, decide_eq_false_iff_not, beq_iff_eq, beq_eq_false_iff_ne, ne_eq] at *; omega)) | with_reducible refine br (fun _ => ?_) (fun _ => ?_) | with_reducible refine ⟨rfl, ?_⟩ | with_reducible refine ARound.succ ?_ | with_reducible refine PCall.call (refCheck_any v) ?_))
    exact leaf (by unfold litS litV; rw [if_pos ho]) (litS_lit _)
  · have hc := chk_yes ho
    have hv0 := validString_any (s := []) (by decide)
    rw [valid_nil] at hv0
    rcases okV_forms ho with rfl | ⟨b, rfl⟩ | ⟨n, rfl⟩ | ⟨t, ht, rfl⟩
    · have hv1 : PCall Tryz.prog 36 [.str vnull.t] (.bool true) := hv0
      iterate 20 (all_goals (try conv => whnf); all_goals (try first | with_reducible refine brY (by assumption) ?_ | with_reducible refine brN (by assumption) ?_ | (with_reducible refine brT ?_ ?_; · (simp only [Bool.and_eq_true, Bool.not_eq_true', decide_eq_true_eq, decide_eq_false_iff_not, beq_iff_eq, beq_eq_false_iff_ne, ne_eq] at *; omega)) | with_reducible refine br (fun _ => ?_) (fun _ => ?_) | with_reducible refine ⟨rfl, ?_⟩ | with_reducible refine ARound.succ ?_ | with_reducible refine PCall.call (refCheck_any vnull) ?_ | with_reducible refine PCall.call (hv1) ?_))
      exact leaf (by rfl) (litS_lit _)
    · cases b
      · have hv1 : PCall Tryz.prog 36 [.str (vbool false).t] (.bool true) := hv0
        iterate 24 (all_goals (try conv => whnf); all_goals (try first | with_reducible refine brY (by assumption) ?_ | with_reducible refine brN (by assumption) ?_ | (with_reducible refine brT ?_ ?_; · (simp only [Bool.and_eq_true, Bool.not_eq_true', decide_eq_true_eq, decide_eq_false_iff_not, beq_iff_eq, beq_eq_false_iff_ne, ne_eq] at *; omega)) | with_reducible refine br (fun _ => ?_) (fun _ => ?_) | with_reducible refine ⟨rfl, ?_⟩ | with_reducible refine ARound.succ ?_ | with_reducible refine PCall.call (refCheck_any (vbool false)) ?_ | with_reducible refine PCall.call (hv1) ?_))
        exact leaf (by rfl) (litS_lit _)
      · have hv1 : PCall Tryz.prog 36 [.str (vbool true).t] (.bool true) := hv0
        iterate 24 (all_goals (try conv => whnf); all_goals (try first | with_reducible refine brY (by assumption) ?_ | with_reducible refine brN (by assumption) ?_ | (with_reducible refine brT ?_ ?_; · (simp only [Bool.and_eq_true, Bool.not_eq_true', decide_eq_true_eq, decide_eq_false_iff_not, beq_iff_eq, beq_eq_false_iff_ne, ne_eq] at *; omega)) | with_reducible refine br (fun _ => ?_) (fun _ => ?_) | with_reducible refine ⟨rfl, ?_⟩ | with_reducible refine ARound.succ ?_ | with_reducible refine PCall.call (refCheck_any (vbool true)) ?_ | with_reducible refine PCall.call (hv1) ?_))
        exact leaf (by rfl) (litS_lit _)
    · have hm := magnitude_any iv.lo iv.hi
      have i1 := iv.lo
      have i2 := iv.hi
      have hd := digits_any 20 (n := (vint n).n.natAbs) (by omega) (by omega)
      have hl := decDigits_len 20 (vint n).n.natAbs (by omega)
      have d1 : decide ([(45 : UInt8)].length + (Lib.decDigits (vint n).n.natAbs).length ≤ 9223372036854775807) = true := decide_eq_true (by simp only [List.length_cons, List.length_nil]; omega)
      have hv1 : PCall Tryz.prog 36 [.str (vint n).t] (.bool true) := hv0
      iterate 24 (all_goals (try conv => whnf); all_goals (try first | with_reducible refine brY (by assumption) ?_ | with_reducible refine brN (by assumption) ?_ | (with_reducible refine brT ?_ ?_; · (simp only [Bool.and_eq_true, Bool.not_eq_true', decide_eq_true_eq, decide_eq_false_iff_not, beq_iff_eq, beq_eq_false_iff_ne, ne_eq] at *; omega)) | with_reducible refine br (fun _ => ?_) (fun _ => ?_) | with_reducible refine ⟨rfl, ?_⟩ | with_reducible refine ARound.succ ?_ | with_reducible refine PCall.call (refCheck_any (vint n)) ?_ | with_reducible refine PCall.call (hv1) ?_ | with_reducible refine PCall.call (hm) ?_ | with_reducible refine PCall.call (hd) ?_))
      all_goals refine leaf ?_ (litS_lit _)
      all_goals unfold litS litV
      all_goals rw [if_neg (by rw [ho]; decide), if_neg (by rw [show (vint n).t = [] from rfl, valid_nil]; decide)]
      all_goals show _ = SV.tup [SV.str (Lib.itoa n), .int .i64 0]
      all_goals unfold Lib.itoa
      · have h : n < 0 := of_decide_eq_true (by assumption : decide ((vint n).n < 0) = true)
        rw [if_pos h]; rfl
      · have h : ¬ n < 0 := of_decide_eq_false (by assumption : decide ((vint n).n < 0) = false)
        rw [if_neg h, ← (show n.natAbs = n.toNat by omega)]; rfl
    · have hv := validString_any (s := t) (by omega)
      have hr := quoted_any (t := t) (by omega)
      cases hV : Lib.validD t
      · have hV' : (!Lib.validD t) = true := by rw [hV]; rfl
        iterate 24 (all_goals (try conv => whnf); all_goals (try first | with_reducible refine brY (by assumption) ?_ | with_reducible refine brN (by assumption) ?_ | (with_reducible refine brT ?_ ?_; · (simp only [Bool.and_eq_true, Bool.not_eq_true', decide_eq_true_eq, decide_eq_false_iff_not, beq_iff_eq, beq_eq_false_iff_ne, ne_eq] at *; omega)) | with_reducible refine br (fun _ => ?_) (fun _ => ?_) | with_reducible refine ⟨rfl, ?_⟩ | with_reducible refine ARound.succ ?_ | with_reducible refine PCall.call (refCheck_any ⟨3, 0, t⟩) ?_ | with_reducible refine PCall.call (hv) ?_))
        exact leaf (by unfold litS litV; rw [if_neg (by rw [ho]; decide), if_pos hV]) (litS_lit _)
      · have hV' : (!Lib.validD t) = false := by rw [hV]; rfl
        iterate 24 (all_goals (try conv => whnf); all_goals (try first | with_reducible refine brY (by assumption) ?_ | with_reducible refine brN (by assumption) ?_ | (with_reducible refine brT ?_ ?_; · (simp only [Bool.and_eq_true, Bool.not_eq_true', decide_eq_true_eq, decide_eq_false_iff_not, beq_iff_eq, beq_eq_false_iff_ne, ne_eq] at *; omega)) | with_reducible refine br (fun _ => ?_) (fun _ => ?_) | with_reducible refine ⟨rfl, ?_⟩ | with_reducible refine ARound.succ ?_ | with_reducible refine PCall.call (refCheck_any ⟨3, 0, t⟩) ?_ | with_reducible refine PCall.call (hv) ?_ | with_reducible refine PCall.call (hr) ?_))
        exact leaf (by unfold litS litV; rw [if_neg (by rw [ho]; decide), if_neg (by rw [hV]; decide)]; rfl) (litS_lit _)
end Go.Proofs.YtojponagjbobaaaGreatDoor
namespace Go.Proofs.YtojponagjbobaaaGreatDoor
open Ab Go.RowKit
set_option maxRecDepth 100000
set_option linter.unusedSimpArgs false
set_option maxHeartbeats 4000000

@[reducible] def oneV (x : V) : SV := .lst 3 1 fun i => (List.getD [x] i vnull).sv
@[reducible] def twoV (x y : V) : SV := .lst 3 2 fun i => (List.getD [x, y] i vnull).sv
theorem hardK1 {A : Heap} {i g : Nat} {cap : Option Nat} {sk : Sk} {a : Int} (ho : A.obj i = some (.vec g 1 [.int .u8 a] sk)) : Hard A (.sl i g 1 0 1 cap) (oneK a) :=
  hard_all ho ⟨rfl, .int _ _, trivial⟩
theorem hardK2 {A : Heap} {i g : Nat} {cap : Option Nat} {sk : Sk} {a b : Int} (ho : A.obj i = some (.vec g 1 [.int .u8 a, .int .u8 b] sk)) : Hard A (.sl i g 1 0 2 cap) (twoK a b) :=
  hard_all ho ⟨rfl, .int _ _, rfl, .int _ _, trivial⟩
theorem hardV2 {A : Heap} {i g : Nat} {cap : Option Nat} {sk : Sk} {x y : V} (ho : A.obj i = some (.vec g 3 [x.sv, y.sv] sk)) : Hard A (.sl i g 3 0 2 cap) (twoV x y) :=
  hard_all ho ⟨rfl, V.lit _, rfl, V.lit _, trivial⟩
theorem hardV1 {A : Heap} {i g : Nat} {cap : Option Nat} {sk : Sk} {x : V} (ho : A.obj i = some (.vec g 3 [x.sv] sk)) : Hard A (.sl i g 3 0 1 cap) (oneV x) :=
  hard_all ho ⟨rfl, V.lit _, trivial⟩
theorem hardFst {A : Heap} {x y : V} : Hard A (.lst 3 1 fun i => (List.getD [x, y] (0 + i) vnull).sv) (lstV [x]) := .same fun j hj => by
  have : j = 0 := by omega
  subst this; rfl
theorem hardSnd {A : Heap} {x y : V} : Hard A (.lst 3 1 fun i => (List.getD [x, y] (1 + i) vnull).sv) (lstV [y]) := .same fun j hj => by
  have : j = 0 := by omega
  subst this; rfl

theorem gd0 (x y : V) : List.getD [x, y] (Int.toNat 0) vnull = x := rfl
theorem gd1 (x y : V) : List.getD [x, y] (IntKind.i64.wrap (0 + 1)).toNat vnull = y := by rw [IntKind.wrap_i64]; rfl
theorem ge0 (x : V) : List.getD [x] (Int.toNat 0) vnull = x := rfl
theorem gd2 (x y : V) : List.getD [x, y] (Int.toNat 1) vnull = y := rfl
theorem chk_len {x : V} (h : (chk x != 0) = false) : x.t.length ≤ 64 := by
  unfold chk at h
  split at h
  · rename_i hk
    unfold okV at hk
    (repeat' split at hk) <;> simp_all
  · simp at h

section
variable {x y : V} (hx : -9223372036854775808 ≤ x.n) (hx' : x.n ≤ 9223372036854775807) (hy : -9223372036854775808 ≤ y.n) (hy' : y.n ≤ 9223372036854775807)
include hx hx' hy hy'
theorem do2 {op : Int} (h : takes op = 2) : PCall Tryz.prog 6 [.int .u8 op, twoV x y] (V.two (doV op [x, y])) := by
  refine pcall_of (lits2 (.int _ _) (.lst _ _ _)) (call6 rfl ?_)
  rcases takes2 h with rfl | rfl | rfl | rfl | rfl | rfl | rfl | rfl | rfl | rfl | rfl | rfl | rfl | rfl
  all_goals iterate 30 (all_goals (try conv => whnf); all_goals (try first | with_reducible refine brY (by assumption) ?_ | with_reducible refine brN (by assumption) ?_ | (with_reducible refine brT ?_ ?_; · (simp only [Bool.and_eq_true, Bool.not_eq_true', decide_eq_true_eq, decide_eq_false_iff_not, beq_iff_eq, beq_eq_false_iff_ne, ne_eq] at *; omega)) | with_reducible refine br (fun _ => ?_) (fun _ => ?_) | with_reducible refine ⟨rfl, ?_⟩ | with_reducible refine ARound.succ ?_ | with_reducible refine PCall.call (takes_any _) ?_ | with_reducible refine PCall.call (check_any _) ?_ | with_reducible refine PCall.call (check_any x) ?_ | with_reducible refine PCall.call (check_any y) ?_ | with_reducible refine PCall.call (gives2 _ _ _ rfl) ?_ | with_reducible refine PCall.call (truth_any _) ?_ | with_reducible refine PCall.call (true_any x) ?_ | with_reducible refine PCall.call (true_any y) ?_ | with_reducible refine PCall.call (false0_any x) ?_ | with_reducible refine PCall.call (false0_any y) ?_ | (refine PCall.call (true_any x) ?_) | (refine PCall.call (true_any y) ?_) | (refine PCall.call (false0_any x) ?_) | (refine PCall.call (false0_any y) ?_) | (refine PCall.call (number3 hx hx' hy hy') ?_) | (refine PCall.call (number4 hx hx' hy hy' (.inl rfl)) ?_) | (refine PCall.call (number5 hx hx' hy hy') ?_) | (refine PCall.call (number6 hx hx' hy hy') ?_) | (refine PCall.call (number7 hy hy') ?_) | (with_reducible refine ACall.frz (fun i => Nat.beq i 2) (.cons (.lit (.int _ _)) (.cons (hardK2 rfl) .nil)) ?_) | with_reducible refine PCall.call (compare_any [x] [y] (by simp)) ?_ | (refine ACall.frz (fun i => false) (.cons hardFst (.cons hardSnd .nil)) ?_) | with_reducible refine PCall.call (holds_any _ _) ?_ | with_reducible refine loop_rounds 5 ?_))
  all_goals simp only [gd0, gd1, gd2] at *
  all_goals try (have h1 := chk_len (x := x) (by assumption); have h2 := chk_len (x := y) (by assumption))
  all_goals first | refine leaf ?_ (V.two_lit _) | (exfalso; have h3 : ¬ (x.t.length + y.t.length ≤ 9223372036854775807) := of_decide_eq_false (by assumption); omega)
  all_goals simp_all [doV, takes, chk, doOn, V.two, V.sv, vnull, vbool, vint, cond_false, cond_true]
  · rw [if_pos (by omega)]; exact ⟨⟨rfl, rfl, rfl⟩, rfl⟩
  · rw [if_neg (by omega)]; exact ⟨⟨rfl, rfl, rfl⟩, rfl⟩
end

section
variable {x : V} (hx : -9223372036854775808 ≤ x.n) (hx' : x.n ≤ 9223372036854775807)
include hx hx'
theorem do1 {op : Int} (h : takes op = 1) : PCall Tryz.prog 6 [.int .u8 op, oneV x] (V.two (doV op [x])) := by
  refine pcall_of (lits2 (.int _ _) (.lst _ _ _)) (call6 rfl ?_)
  rcases takes1 h with rfl | rfl | rfl | rfl
  all_goals iterate 30 (all_goals (try conv => whnf); all_goals (try first | with_reducible refine brY (by assumption) ?_ | with_reducible refine brN (by assumption) ?_ | (with_reducible refine brT ?_ ?_; · (simp only [Bool.and_eq_true, Bool.not_eq_true', decide_eq_true_eq, decide_eq_false_iff_not, beq_iff_eq, beq_eq_false_iff_ne, ne_eq] at *; omega)) | with_reducible refine br (fun _ => ?_) (fun _ => ?_) | with_reducible refine ⟨rfl, ?_⟩ | with_reducible refine ARound.succ ?_ | with_reducible refine PCall.call (takes_any _) ?_ | with_reducible refine PCall.call (check_any _) ?_ | with_reducible refine PCall.call (check_any x) ?_ | with_reducible refine PCall.call (gives1 _ _ rfl) ?_ | with_reducible refine PCall.call (truth_any _) ?_ | with_reducible refine PCall.call (true_any x) ?_ | (refine PCall.call (true_any x) ?_) | (refine PCall.call (number4 (by omega) (by omega) hx hx' (.inr rfl)) ?_) | (with_reducible refine ACall.frz (fun i => Nat.beq i 2) (.cons (.lit (.int _ _)) (.cons (hardK1 rfl) .nil)) ?_) | with_reducible refine loop_rounds 5 ?_))
  all_goals simp only [ge0] at *
  all_goals refine leaf ?_ (V.two_lit _)
  all_goals simp_all [doV, takes, chk, doOn, V.two, V.sv, vnull, vbool, vint, cond_false, cond_true]
  all_goals trace_state
end

theorem do_bad (op : Int) (l : List V) (h : takes op = 0 ∨ (l.length : Int) ≠ takes op) : PCall Tryz.prog 6 [.int .u8 op, lstV l] (V.two (doV op l)) := by
  refine pcall_of (lits2 (.int _ _) (.lst _ _ _)) (call6 rfl ?_)
  have e : doV op l = (vnull, 2) := by unfold doV; rw [if_pos h]
  rw [e]
  iterate 10 (all_goals (try conv => whnf); all_goals (try first | with_reducible refine brY (by assumption) ?_ | with_reducible refine brN (by assumption) ?_ | (with_reducible refine brT ?_ ?_; · (simp only [Bool.and_eq_true, Bool.not_eq_true', decide_eq_true_eq, decide_eq_false_iff_not, beq_iff_eq, beq_eq_false_iff_ne, ne_eq] at *; omega)) | with_reducible refine br (fun _ => ?_) (fun _ => ?_) | with_reducible refine ⟨rfl, ?_⟩ | with_reducible refine ARound.succ ?_ | with_reducible refine PCall.call (takes_any _) ?_))
  · exact leaf rfl (V.two_lit _)
  · exact leaf rfl (V.two_lit _)
  all_goals exfalso
  all_goals simp only [beq_iff_eq, beq_eq_false_iff_ne, cond_false, bne_eq_false_iff_eq, ne_eq] at *
  all_goals omega
end Go.Proofs.YtojponagjbobaaaGreatDoor
