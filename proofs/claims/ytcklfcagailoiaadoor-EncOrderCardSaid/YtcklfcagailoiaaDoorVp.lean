/- Plain words for values of the language: what the operations compute, as functions on numbers and lists of bytes. No program in sight. -/
import Derived.RowKit
import Derived.WalkKit
namespace Go.Proofs.YtcklfcagailoiaaDoor
open Go.RowKit


structure V where
  k : Int
  n : Int
  t : List UInt8



def vnull : V := ⟨0, 0, []⟩
def vint (n : Int) : V := ⟨2, n, []⟩
def vbool (b : Bool) : V := ⟨1, if b then 1 else 0, []⟩

def cmpI (a b : Int) : Int := if a < b then -1 else if b < a then 1 else 0
def cmpS (a b : List UInt8) : Int := if Op.bytesLess a b then -1 else if a == b then 0 else 1
def or3 (a b c : Int) : Int := if a ≠ 0 then a else if b ≠ 0 then b else c
def cmpV (a b : V) : Int := or3 (cmpI a.k b.k) (cmpI a.n b.n) (cmpS a.t b.t)
def cmpL : List V → List V → Int
  | a :: as, b :: bs => if cmpV a b ≠ 0 then cmpV a b else cmpL as bs
  | as, bs => cmpI as.length bs.length

def okV (v : V) : Bool :=
  if v.k = 0 then v.n == 0 && v.t == []
  else if v.k = 1 then (v.n == 0 || v.n == 1) && v.t == []
  else if v.k = 2 then v.t == []
  else if v.k = 3 then v.n == 0 && decide (v.t.length ≤ 64)
  else false
def chk (v : V) : Int := if okV v then 0 else 2

/-- Are two values the same? -/
def eq3 (k n : Int) (t : List UInt8) (k' n' : Int) (t' : List UInt8) : Bool := k == k' && (n == n' && t == t')
def eqV (a b : V) : Bool := eq3 a.k a.n a.t b.k b.n b.t
def isT (v : V) : Bool := eq3 v.k v.n v.t (vbool true).k (vbool true).n (vbool true).t
def isF (v : V) : Bool := v.k == 1 && v.n == 0

def takes (op : Int) : Int := if 3 ≤ op ∧ op ≤ 16 then 2 else if 17 ≤ op ∧ op ≤ 20 then 1 else 0
def holdsI (op c : Int) : Bool :=
  if op = 9 then c == 0 else if op = 10 then c != 0 else if op = 11 then decide (c < 0) else if op = 12 then decide (c ≤ 0) else if op = 13 then decide (0 < c) else decide (0 ≤ c)

def inI (x : Int) : Bool := decide (-9223372036854775808 ≤ x ∧ x ≤ 9223372036854775807)
/-- What an operation of two whole numbers comes to: a number, or an error. -/
def numI (op a b : Int) : Int × Int :=
  if op = 3 then (if inI (a + b) then (a + b, 0) else (0, 221))
  else if op = 4 ∨ op = 18 then (if inI (a - b) then (a - b, 0) else (0, 221))
  else if op = 5 then (if inI (a * b) then (a * b, 0) else (0, 221))
  else if b = 0 then (0, 222)
  else if op = 7 then (a.tmod b, 0)
  else if inI (a.tdiv b) then (a.tdiv b, 0) else (0, 221)
def numV (op a b : Int) : V × Int := if (numI op a b).2 = 0 then (vint (numI op a b).1, 0) else (vnull, (numI op a b).2)

def allK (want : Int) (ks : List Int) : Bool := ks.all fun k => k == want || k == 0
/-- The kind that an operation gives, and the error. -/
def givesI (op : Int) (ks : List Int) : Int × Int :=
  if takes op = 0 ∨ (ks.length : Int) ≠ takes op then (0, 2)
  else if ks.any fun k => decide (3 < k) then (0, 2)
  else if (3 ≤ op ∧ op ≤ 7) ∨ op = 18 then (if allK 2 ks then (2, 0) else (0, 220))
  else if op = 8 then (if allK 3 ks then (3, 0) else (0, 220))
  else if op = 15 ∨ op = 16 ∨ op = 17 then (if allK 1 ks then (1, 0) else (0, 220))
  else if op = 19 ∨ op = 20 then (1, 0)
  else if allK (max (ks.getD 0 0) (ks.getD 1 0)) ks then (1, 0) else (0, 220)

/-- An operation on values that may be, of kinds that go together. -/
def doOn (op : Int) (l : List V) : V × Int :=
  let x := l.getD 0 vnull
  let y := l.getD 1 vnull
  let null := l.any fun v => v.k == 0
  if op = 19 then (vbool null, 0)
  else if op = 20 then (vbool (!null), 0)
  else if op = 15 ∧ (isF x || isF y) = true then (vbool false, 0)
  else if op = 16 ∧ (isT x || isT y) = true then (vbool true, 0)
  else if null then (vnull, 0)
  else if op = 15 then (vbool true, 0)
  else if op = 16 then (vbool false, 0)
  else if op = 17 then (vbool (!isT x), 0)
  else if op = 18 then numV op 0 x.n
  else if op = 8 then (if 64 < x.t.length + y.t.length then (vnull, 3) else (⟨3, 0, x.t ++ y.t⟩, 0))
  else if 3 ≤ op ∧ op ≤ 7 then numV op x.n y.n
  else (vbool (holdsI op (cmpL [x] [y])), 0)

def doV (op : Int) (l : List V) : V × Int :=
  if takes op = 0 ∨ (l.length : Int) ≠ takes op then (vnull, 2)
  else if l.any fun v => !okV v then (vnull, 2)
  else if (givesI op (l.map (·.k))).2 ≠ 0 then (vnull, (givesI op (l.map (·.k))).2)
  else doOn op l


theorem inI_iff {x : Int} : inI x = true ↔ -9223372036854775808 ≤ x ∧ x ≤ 9223372036854775807 := by unfold inI; simp
theorem inI_not {x : Int} : inI x = false ↔ ¬ (-9223372036854775808 ≤ x ∧ x ≤ 9223372036854775807) := by unfold inI; simp

theorem numV_ok {op a b x : Int} (h : numI op a b = (x, 0)) : numV op a b = (vint x, 0) := by simp [numV, h]
theorem numV_no {op a b e : Int} (he : e ≠ 0) (h : numI op a b = (0, e)) : numV op a b = (vnull, e) := by simp [numV, h, he]

theorem tdiv_half {x d : Int} (h : 2 ≤ d.natAbs) (h1 : x.natAbs ≤ 9223372036854775808) : (x.tdiv d).natAbs ≤ 4611686018427387904 := by
  rw [Int.natAbs_tdiv]
  calc x.natAbs / d.natAbs ≤ x.natAbs / 2 := Nat.div_le_div_left h (by decide)
    _ ≤ 4611686018427387904 := by omega

theorem mul_zero_ (b : Int) : numV 5 0 b = (vint 0, 0) := numV_ok (by simp [numI, inI])
theorem div_none {op a : Int} (hop : op = 6 ∨ op = 7) : numV op a 0 = (vnull, 222) :=
  numV_no (by decide) (by unfold numI; rw [if_neg (by omega), if_neg (by omega), if_neg (by omega), if_pos rfl])
theorem div_neg (a : Int) : numV 6 a (-1) = numV 4 0 a := by
  have e1 : numI 6 a (-1) = if inI (a.tdiv (-1)) then (a.tdiv (-1), 0) else (0, 221) := by
    unfold numI
    rw [if_neg (by omega), if_neg (by omega), if_neg (by omega), if_neg (by omega), if_neg (by omega)]
  have e2 : numI 4 0 a = if inI (0 - a) then (0 - a, 0) else (0, 221) := by
    unfold numI
    rw [if_neg (by omega), if_pos (by omega)]
  have e : numI 6 a (-1) = numI 4 0 a := by rw [e1, e2, Int.tdiv_neg, Int.tdiv_one, Int.zero_sub]
  simp only [numV, e]

theorem mod_yes {a b : Int} (h0 : b ≠ 0) : numV 7 a b = (vint (a.tmod b), 0) :=
  numV_ok (by unfold numI; rw [if_neg (by omega), if_neg (by omega), if_neg (by omega), if_neg h0, if_pos rfl])

section
variable {a b : Int} (ha : -9223372036854775808 ≤ a) (ha' : a ≤ 9223372036854775807) (hb : -9223372036854775808 ≤ b) (hb' : b ≤ 9223372036854775807)
include ha ha' hb hb'

theorem sum_yes (h : (0 < b ∧ a < wrap64 (a + b)) ∨ (¬ 0 < b ∧ wrap64 (a + b) ≤ a)) : numV 3 a b = (vint (wrap64 (a + b)), 0) := by
  have hi : -9223372036854775808 ≤ a + b ∧ a + b ≤ 9223372036854775807 := by unfold wrap64 at h; omega
  have hw : wrap64 (a + b) = a + b := by unfold wrap64; omega
  exact numV_ok (by rw [hw]; unfold numI; rw [if_pos rfl, if_pos (inI_iff.2 hi)])
theorem sum_no (h : (0 < b ∧ wrap64 (a + b) ≤ a) ∨ (¬ 0 < b ∧ a < wrap64 (a + b))) : numV 3 a b = (vnull, 221) := by
  have hi : ¬ (-9223372036854775808 ≤ a + b ∧ a + b ≤ 9223372036854775807) := by unfold wrap64 at h; omega
  exact numV_no (by decide) (by unfold numI; rw [if_pos rfl, if_neg (by rw [inI_not.2 hi]; decide)])
theorem dif_yes {op : Int} (hop : op = 4 ∨ op = 18) (h : (0 < b ∧ wrap64 (a - b) < a) ∨ (¬ 0 < b ∧ a ≤ wrap64 (a - b))) : numV op a b = (vint (wrap64 (a - b)), 0) := by
  have hi : -9223372036854775808 ≤ a - b ∧ a - b ≤ 9223372036854775807 := by unfold wrap64 at h; omega
  have hw : wrap64 (a - b) = a - b := by unfold wrap64; omega
  exact numV_ok (by rw [hw]; unfold numI; rw [if_neg (by omega), if_pos hop, if_pos (inI_iff.2 hi)])
theorem dif_no {op : Int} (hop : op = 4 ∨ op = 18) (h : (0 < b ∧ a ≤ wrap64 (a - b)) ∨ (¬ 0 < b ∧ wrap64 (a - b) < a)) : numV op a b = (vnull, 221) := by
  have hi : ¬ (-9223372036854775808 ≤ a - b ∧ a - b ≤ 9223372036854775807) := by unfold wrap64 at h; omega
  exact numV_no (by decide) (by unfold numI; rw [if_neg (by omega), if_pos hop, if_neg (by rw [inI_not.2 hi]; decide)])

theorem tdiv_in (h0 : b ≠ 0) (h1 : b ≠ -1) : -9223372036854775808 ≤ a.tdiv b ∧ a.tdiv b ≤ 9223372036854775807 := by
  by_cases hb1 : b = 1
  · subst hb1; simp; omega
  · have := tdiv_half (x := a) (d := b) (by omega) (by omega)
    omega

theorem mul_yes (h0 : a ≠ 0) (h : wrap64 ((wrap64 (a * b)).tdiv a) = b) (h1 : ¬ (a = -1 ∧ b = -9223372036854775808)) : numV 5 a b = (vint (wrap64 (a * b)), 0) := by
  have hx : -9223372036854775808 ≤ wrap64 (a * b) ∧ wrap64 (a * b) ≤ 9223372036854775807 := by unfold wrap64; omega
  obtain ⟨k, hk⟩ : ∃ k, wrap64 (a * b) = a * b - 18446744073709551616 * k := ⟨(a * b + 9223372036854775808) / 18446744073709551616, by unfold wrap64; omega⟩
  have hq : (wrap64 (a * b)).tdiv a = b := by
    generalize wrap64 (a * b) = x at *
    by_cases e1 : a = 1
    · subst e1; simp at h ⊢; unfold wrap64 at h; omega
    · by_cases e2 : a = -1
      · subst e2; rw [Int.tdiv_neg, Int.tdiv_one] at h ⊢; unfold wrap64 at h; omega
      · have := tdiv_half (x := x) (d := a) (by omega) (by omega)
        unfold wrap64 at h; omega
  have hr := Int.mul_tdiv_add_tmod (wrap64 (a * b)) a
  rw [hq] at hr
  have hm : ((wrap64 (a * b)).tmod a).natAbs < a.natAbs := by
    rw [Int.natAbs_tmod]; exact Nat.mod_lt _ (by omega)
  have hw : wrap64 (a * b) = a * b := by
    generalize (wrap64 (a * b)).tmod a = r at *
    generalize a * b = p at *
    omega
  exact numV_ok (by rw [hw]; unfold numI; rw [if_neg (by omega), if_neg (by omega), if_pos rfl, if_pos (inI_iff.2 (by rw [← hw]; exact hx))])
theorem mul_no (h0 : a ≠ 0) (h : ¬ wrap64 ((wrap64 (a * b)).tdiv a) = b ∨ (a = -1 ∧ b = -9223372036854775808)) : numV 5 a b = (vnull, 221) := by
  have hi : ¬ (-9223372036854775808 ≤ a * b ∧ a * b ≤ 9223372036854775807) := by
    intro hi
    rcases h with h | ⟨rfl, rfl⟩
    · have hw : wrap64 (a * b) = a * b := by generalize a * b = p at *; unfold wrap64; omega
      rw [hw, Int.mul_tdiv_cancel_left b h0] at h
      unfold wrap64 at h; omega
    · omega
  exact numV_no (by decide) (by unfold numI; rw [if_neg (by omega), if_neg (by omega), if_pos rfl, if_neg (by rw [inI_not.2 hi]; decide)])
theorem div_yes (h0 : b ≠ 0) (h1 : b ≠ -1) : numV 6 a b = (vint (a.tdiv b), 0) :=
  numV_ok (by unfold numI; rw [if_neg (by omega), if_neg (by omega), if_neg (by omega), if_neg h0, if_neg (by omega), if_pos (inI_iff.2 (tdiv_in ha ha' hb hb' h0 h1))])
end


theorem join_small {x y : V} (okx : okV x = true) (oky : okV y = true) (nx : (x.k == 0) = false) (ny : (y.k == 0) = false) (hg : (givesI 8 [x.k, y.k]).2 = 0) : x.t.length ≤ 64 ∧ y.t.length ≤ 64 := by
  have nx' : x.k ≠ 0 := by simpa using nx
  have ny' : y.k ≠ 0 := by simpa using ny
  have h3 : x.k = 3 ∧ y.k = 3 := by
    unfold givesI at hg
    by_cases hb : (([x.k, y.k] : List Int).any fun k => decide (3 < k)) = true
    · rw [if_neg (by simp [takes]), if_pos hb] at hg; simp at hg
    · rw [if_neg (by simp [takes]), if_neg hb, if_neg (by decide), if_pos rfl] at hg
      by_cases ha : allK 3 [x.k, y.k] = true
      · simp [allK, nx', ny'] at ha; exact ha
      · rw [if_neg ha] at hg; simp at hg
  unfold okV at okx oky
  rw [h3.1] at okx
  rw [h3.2] at oky
  simp at okx oky
  exact ⟨okx.2, oky.2⟩
theorem any2 (x y : V) : ([x, y].any fun v => v.k == 0) = ((x.k == 0) || (y.k == 0)) := by simp
theorem any1 (x : V) : ([x].any fun v => v.k == 0) = (x.k == 0) := by simp

section
variable {x y : V}
theorem doOn_15_f (h : (isF x || isF y) = true) : doOn 15 [x, y] = (vbool false, 0) := by
  unfold doOn; simp only [any2, List.getD_cons_zero, List.getD_cons_succ, h]; rfl
theorem doOn_15_n (h : (isF x || isF y) = false) (hn : ((x.k == 0) || (y.k == 0)) = true) : doOn 15 [x, y] = (vnull, 0) := by
  unfold doOn; simp only [any2, List.getD_cons_zero, List.getD_cons_succ, h, hn]; rfl
theorem doOn_15_t (h : (isF x || isF y) = false) (hn : ((x.k == 0) || (y.k == 0)) = false) : doOn 15 [x, y] = (vbool true, 0) := by
  unfold doOn; simp only [any2, List.getD_cons_zero, List.getD_cons_succ, h, hn]; rfl
theorem doOn_16_t (h : (isT x || isT y) = true) : doOn 16 [x, y] = (vbool true, 0) := by
  unfold doOn; simp only [any2, List.getD_cons_zero, List.getD_cons_succ, h]; rfl
theorem doOn_16_n (h : (isT x || isT y) = false) (hn : ((x.k == 0) || (y.k == 0)) = true) : doOn 16 [x, y] = (vnull, 0) := by
  unfold doOn; simp only [any2, List.getD_cons_zero, List.getD_cons_succ, h, hn]; rfl
theorem doOn_16_f (h : (isT x || isT y) = false) (hn : ((x.k == 0) || (y.k == 0)) = false) : doOn 16 [x, y] = (vbool false, 0) := by
  unfold doOn; simp only [any2, List.getD_cons_zero, List.getD_cons_succ, h, hn]; rfl
theorem doOn_null {op : Int} (h0 : 3 ≤ op) (h1 : op ≤ 14) (hn : ((x.k == 0) || (y.k == 0)) = true) : doOn op [x, y] = (vnull, 0) := by
  unfold doOn; simp only [any2, hn]
  rw [if_neg (by omega), if_neg (by omega), if_neg (by omega), if_neg (by omega), if_pos trivial]
theorem doOn_num {op : Int} (h0 : 3 ≤ op) (h1 : op ≤ 7) (hn : ((x.k == 0) || (y.k == 0)) = false) : doOn op [x, y] = numV op x.n y.n := by
  unfold doOn; simp only [any2, hn, List.getD_cons_zero, List.getD_cons_succ]
  rw [if_neg (by omega), if_neg (by omega), if_neg (by omega), if_neg (by omega), if_neg (by decide), if_neg (by omega), if_neg (by omega), if_neg (by omega), if_neg (by omega), if_neg (by omega), if_pos ⟨h0, h1⟩]
theorem doOn_cmp {op : Int} (h0 : 9 ≤ op) (h1 : op ≤ 14) (hn : ((x.k == 0) || (y.k == 0)) = false) : doOn op [x, y] = (vbool (holdsI op (cmpL [x] [y])), 0) := by
  unfold doOn; simp only [any2, hn, List.getD_cons_zero, List.getD_cons_succ]
  rw [if_neg (by omega), if_neg (by omega), if_neg (by omega), if_neg (by omega), if_neg (by decide), if_neg (by omega), if_neg (by omega), if_neg (by omega), if_neg (by omega), if_neg (by omega), if_neg (by omega)]
theorem doOn_8_no (hn : ((x.k == 0) || (y.k == 0)) = false) (h : 64 < x.t.length + y.t.length) : doOn 8 [x, y] = (vnull, 3) := by
  unfold doOn; simp only [any2, hn, List.getD_cons_zero, List.getD_cons_succ, h, if_true]; rfl
theorem doOn_8_yes (hn : ((x.k == 0) || (y.k == 0)) = false) (h : ¬ 64 < x.t.length + y.t.length) : doOn 8 [x, y] = (⟨3, 0, x.t ++ y.t⟩, 0) := by
  unfold doOn; simp only [any2, hn, List.getD_cons_zero, List.getD_cons_succ, h, if_false]; rfl
theorem doOn_19 : doOn 19 [x] = (vbool (x.k == 0), 0) := by unfold doOn; simp only [any1]; rfl
theorem doOn_20 : doOn 20 [x] = (vbool (!(x.k == 0)), 0) := by unfold doOn; simp only [any1]; rfl
theorem doOn_17_n (hn : (x.k == 0) = true) : doOn 17 [x] = (vnull, 0) := by unfold doOn; simp only [any1, hn]; rfl
theorem doOn_18_n (hn : (x.k == 0) = true) : doOn 18 [x] = (vnull, 0) := by unfold doOn; simp only [any1, hn]; rfl
theorem doOn_17 (hn : (x.k == 0) = false) : doOn 17 [x] = (vbool (!isT x), 0) := by unfold doOn; simp only [any1, hn]; rfl
theorem doOn_18 (hn : (x.k == 0) = false) : doOn 18 [x] = numV 18 0 x.n := by unfold doOn; simp only [any1, hn]; rfl
end
end Go.Proofs.YtcklfcagailoiaaDoor
