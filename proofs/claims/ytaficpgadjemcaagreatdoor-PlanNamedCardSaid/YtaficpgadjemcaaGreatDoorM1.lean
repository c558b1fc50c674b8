/- Parts of the proof of PnP, one behind the other. -/
import Derived.Calls
import GoSem.PinnedTables
import Derived.Orders
import Derived.Below
import Derived.Lib.Bytealg
import Derived.Laws.Cells
import Derived.Laws.CopyRow
import Derived.Laws.World
import Derived.WalkKit
namespace Ab
def globTab : Nat → List (Go.IntKind × Int)
  | 1 => [(.u8, 0), (.u8, 0), (.u8, 0), (.u8, 0), (.u8, 0), (.u8, 0), (.u8, 0), (.u8, 0), (.u8, 0), (.u8, 1), (.u8, 1), (.u8, 1), (.u8, 1), (.u8, 1), (.u8, 0), (.u8, 0), (.u8, 0), (.u8, 0), (.u8, 0), (.u8, 0), (.u8, 0), (.u8, 0), (.u8, 0), (.u8, 0), (.u8, 0), (.u8, 0), (.u8, 0), (.u8, 0), (.u8, 0), (.u8, 0), (.u8, 0), (.u8, 0), (.u8, 1), (.u8, 0), (.u8, 0), (.u8, 0), (.u8, 0), (.u8, 0), (.u8, 0), (.u8, 0), (.u8, 0), (.u8, 0), (.u8, 0), (.u8, 0), (.u8, 0), (.u8, 0), (.u8, 0), (.u8, 0), (.u8, 0), (.u8, 0), (.u8, 0), (.u8, 0), (.u8, 0), (.u8, 0), (.u8, 0), (.u8, 0), (.u8, 0), (.u8, 0), (.u8, 0), (.u8, 0), (.u8, 0), (.u8, 0), (.u8, 0), (.u8, 0), (.u8, 0), (.u8, 0), (.u8, 0), (.u8, 0), (.u8, 0), (.u8, 0), (.u8, 0), (.u8, 0), (.u8, 0), (.u8, 0), (.u8, 0), (.u8, 0), (.u8, 0), (.u8, 0), (.u8, 0), (.u8, 0), (.u8, 0), (.u8, 0), (.u8, 0), (.u8, 0), (.u8, 0), (.u8, 0), (.u8, 0), (.u8, 0), (.u8, 0), (.u8, 0), (.u8, 0), (.u8, 0), (.u8, 0), (.u8, 0), (.u8, 0), (.u8, 0), (.u8, 0), (.u8, 0), (.u8, 0), (.u8, 0), (.u8, 0), (.u8, 0), (.u8, 0), (.u8, 0), (.u8, 0), (.u8, 0), (.u8, 0), (.u8, 0), (.u8, 0), (.u8, 0), (.u8, 0), (.u8, 0), (.u8, 0), (.u8, 0), (.u8, 0), (.u8, 0), (.u8, 0), (.u8, 0), (.u8, 0), (.u8, 0), (.u8, 0), (.u8, 0), (.u8, 0), (.u8, 0), (.u8, 0), (.u8, 0), (.u8, 0), (.u8, 0), (.u8, 0), (.u8, 0), (.u8, 0), (.u8, 0), (.u8, 0), (.u8, 0), (.u8, 0), (.u8, 0), (.u8, 0), (.u8, 0), (.u8, 0), (.u8, 0), (.u8, 0), (.u8, 0), (.u8, 0), (.u8, 0), (.u8, 0), (.u8, 0), (.u8, 0), (.u8, 0), (.u8, 0), (.u8, 0), (.u8, 0), (.u8, 0), (.u8, 0), (.u8, 0), (.u8, 0), (.u8, 0), (.u8, 0), (.u8, 0), (.u8, 0), (.u8, 0), (.u8, 0), (.u8, 0), (.u8, 0), (.u8, 0), (.u8, 0), (.u8, 0), (.u8, 0), (.u8, 0), (.u8, 0), (.u8, 0), (.u8, 0), (.u8, 0), (.u8, 0), (.u8, 0), (.u8, 0), (.u8, 0), (.u8, 0), (.u8, 0), (.u8, 0), (.u8, 0), (.u8, 0), (.u8, 0), (.u8, 0), (.u8, 0), (.u8, 0), (.u8, 0), (.u8, 0), (.u8, 0), (.u8, 0), (.u8, 0), (.u8, 0), (.u8, 0), (.u8, 0), (.u8, 0), (.u8, 0), (.u8, 0), (.u8, 0), (.u8, 0), (.u8, 0), (.u8, 0), (.u8, 0), (.u8, 0), (.u8, 0), (.u8, 0), (.u8, 0), (.u8, 0), (.u8, 0), (.u8, 0), (.u8, 0), (.u8, 0), (.u8, 0), (.u8, 0), (.u8, 0), (.u8, 0), (.u8, 0), (.u8, 0), (.u8, 0), (.u8, 0), (.u8, 0), (.u8, 0), (.u8, 0), (.u8, 0), (.u8, 0), (.u8, 0), (.u8, 0), (.u8, 0), (.u8, 0), (.u8, 0), (.u8, 0), (.u8, 0), (.u8, 0), (.u8, 0), (.u8, 0), (.u8, 0), (.u8, 0), (.u8, 0), (.u8, 0), (.u8, 0), (.u8, 0), (.u8, 0), (.u8, 0), (.u8, 0), (.u8, 0), (.u8, 0), (.u8, 0), (.u8, 0), (.u8, 0), (.u8, 0), (.u8, 0), (.u8, 0), (.u8, 0), (.u8, 0), (.u8, 0), (.u8, 0), (.u8, 0), (.u8, 0)]
  | 2 => Go.Pinned.utf8FirstZ.map fun (n : Nat) => (Go.IntKind.u8, Int.ofNat n)
  | _ => []
def globIf : List Nat := []
end Ab
namespace Ab
set_option linter.unusedVariables false
set_option linter.unusedSimpArgs false
open Go

inductive SV where
  | undef
  | bool (b : Bool)
  | int (k : IntKind) (n : Int)
  | str (s : List UInt8)
  | nilp
  | ref (i g idx sub : Nat)
  | ipt (v : SV) (sub : Nat)
  | glob (g : Nat)
  | nils
  | lst (sz n : Nat) (get : Nat → SV)
  | sl (i g sz off len : Nat) (cap : Option Nat)
  | func (fn : Fn) (first captured : List SV)
  | nilf
  | iface (t : TypeId) (v : SV)
  | nili
  | agg (l : List SV)
  | tup (l : List SV)
  | nilm
  | mapv (i g : Nat)
  deriving Inhabited

/-- What more is known of a row: may it be longer than what is told of it; the type that its block was laid as. -/
structure Sk where
  slack : Bool
  ty : Option TypeId

inductive AObj where
  | vec (g sz : Nat) (elems : List SV) (slack : Sk)
  | iter (s : List UInt8) (pos : Nat)
  | map (es : List (SV × SV × Nat)) (clock : Nat)
  | miter (m : SV) (since : Nat) (seen : List Nat) (stepped : Nat)
  | fro (g : Nat) (ty : TypeId) (xs : List SV)

def AObj.gen : AObj → Nat
  | .vec g _ _ _ => g
  | .iter _ _ => 0
  | .map _ _ => 0
  | .miter .. => 0
  | .fro g _ _ => g
def AObj.sz : AObj → Nat
  | .vec _ sz _ _ => sz
  | .iter _ _ => 0
  | .map _ _ => 0
  | .miter .. => 0
  | .fro .. => 1

structure Heap where
  nxt : Nat
  l : List (Nat × AObj)

def objL : List (Nat × AObj) → Nat → Option AObj
  | [], _ => none
  | (s, o) :: r, i => if s = i then some o else objL r i
def Heap.obj (h : Heap) (i : Nat) : Option AObj := objL h.l i

def SV.cells : SV → List SV
  | .agg l => l
  | v => [v]

/-- A value without a name in it reads so, by blocks that nobody writes any more. -/
inductive VP (Im : Nat → Prop) (w : World) : SV → Value → Prop
  | undef (x : Value) : VP Im w .undef x
  | bool (b : Bool) : VP Im w (.bool b) (.bool b)
  | int (k : IntKind) (n : Int) : VP Im w (.int k n) (.int k n)
  | str (s : List UInt8) : VP Im w (.str s) (.string ⟨s.toArray⟩)
  | nilp : VP Im w .nilp (.pointer none)
  | glob (g : Nat) : VP Im w (.glob g) (.pointer (some ⟨g, 0, none⟩))
  | nils : VP Im w .nils (.slice none 0 0)
  | nilf : VP Im w .nilf .nilFunc
  | nili : VP Im w .nili .nilIface
  | nilm : VP Im w .nilm (.map none)
  | iface (t : TypeId) (v : SV) (x : Value) (h : VP Im w v x) : VP Im w (.iface t v) (.iface t x)
  | agg (l : List SV) (cs : Array Value) (hl : cs.size = l.length)
      (h : ∀ (i : Nat) (v : SV) (x : Value), l[i]? = some v → cs[i]? = some x → VP Im w v x) : VP Im w (.agg l) (.agg cs)
  | tup (l : List SV) (cs : Array Value) (hl : cs.size = l.length)
      (h : ∀ (i : Nat) (v : SV) (x : Value), l[i]? = some v → cs[i]? = some x → VP Im w v x) : VP Im w (.tup l) (.tuple cs)
  | func (fn : Fn) (a b : List SV) (a' b' : Array Value) (ha : a'.size = a.length) (hb : b'.size = b.length)
      (h : ∀ (i : Nat) (v : SV) (x : Value), a[i]? = some v → a'[i]? = some x → VP Im w v x)
      (h' : ∀ (i : Nat) (v : SV) (x : Value), b[i]? = some v → b'[i]? = some x → VP Im w v x) : VP Im w (.func fn a b) (.func fn a' b')
  | lst0 (sz : Nat) (get : Nat → SV) (a : Option Addr) (cap : Nat) : VP Im w (.lst sz 0 get) (.slice a 0 cap)
  | lst (sz n : Nat) (get : Nat → SV) (b off cap : Nat) (C : Array Value) (ty : TypeId) (fz : Nat × Nat) (hb : Im b) (hw : w.heap[b]? = some (.cells C ty fz))
      (hn : off + n * sz ≤ C.size) (hcap : n ≤ cap) (hc : ∀ i, i < n → (get i).cells.length = sz)
      (h : ∀ (i j : Nat) (v : SV) (x : Value), i < n → (get i).cells[j]? = some v → C[off + i * sz + j]? = some x → VP Im w v x) :
      VP Im w (.lst sz n get) (.slice (some ⟨b, off, none⟩) n cap)
  | ipt (v : SV) (sub b o : Nat) (C : Array Value) (ty : TypeId) (fz : Nat × Nat) (hb : Im b) (hw : w.heap[b]? = some (.cells C ty fz))
      (hn : o + v.cells.length ≤ C.size)
      (h : ∀ (j : Nat) (u : SV) (x : Value), v.cells[j]? = some u → C[o + j]? = some x → VP Im w u x) :
      VP Im w (.ipt v sub) (.pointer (some ⟨b, o + sub, none⟩))

theorem VP.mono {Im Im' : Nat → Prop} {w w' : World} (hI : ∀ b, Im b → Im' b) (hh : ∀ b, Im b → w'.heap[b]? = w.heap[b]?) {v : SV} {x : Value} (h : VP Im w v x) : VP Im' w' v x := by
  induction h with
  | undef x => exact .undef x
  | bool b => exact .bool b
  | int k n => exact .int k n
  | str s => exact .str s
  | nilp => exact .nilp
  | glob g => exact .glob g
  | nils => exact .nils
  | nilf => exact .nilf
  | nili => exact .nili
  | nilm => exact .nilm
  | iface t v x _ ih => exact .iface t v x ih
  | agg l cs hl _ ih => exact .agg l cs hl ih
  | tup l cs hl _ ih => exact .tup l cs hl ih
  | func fn a b a' b' ha hb _ _ ih ih' => exact .func fn a b a' b' ha hb ih ih'
  | lst0 sz get a cap => exact .lst0 sz get a cap
  | lst sz n get b off cap C ty fz hb hw hn hcap hc _ ih => exact .lst sz n get b off cap C ty fz (hI b hb) ((hh b hb).trans hw) hn hcap hc ih
  | ipt v sub b o C ty fz hb hw hn _ ih => exact .ipt v sub b o C ty fz (hI b hb) ((hh b hb).trans hw) hn ih

/-- Which block a name means; which blocks nobody writes any more. -/
structure Cx where
  β : Nat → Nat
  Im : Nat → Prop

inductive VR (c : Cx) (A : Heap) (w : World) : SV → Value → Prop
  | pure {v : SV} {x : Value} (h : VP c.Im w v x) : VR c A w v x
  | ref (i g idx sub : Nat) (x : Value) (hx : ∃ a, x = .pointer a) (hi : i < A.nxt) (hg : ∀ o, A.obj i = some o → g ≤ o.gen)
      (h : ∀ o, A.obj i = some o → o.gen = g → x = .pointer (some ⟨c.β i, idx * o.sz + sub, none⟩)) : VR c A w (.ref i g idx sub) x
  | sl (i g sz off len : Nat) (cap : Option Nat) (x : Value) (hx : ∃ a l c, x = .slice a l c) (hi : i < A.nxt) (hg : ∀ o, A.obj i = some o → g ≤ o.gen)
      (h : ∀ o, A.obj i = some o → o.gen = g → o.sz = sz ∧ ∃ a cc, x = .slice (some a) len cc ∧ len ≤ cc ∧ (∀ k, cap = some k → cc = k) ∧
        (cc = 0 ∨ a = ⟨c.β i, off * sz, none⟩ ∧ ∃ ty n, w.shape? (c.β i) = some (ty, n) ∧ off * sz + cc * sz ≤ n) ∧
        (cap = none → ∃ ty n, w.shape? (c.β i) = some (ty, n) ∧ off * sz + cc * sz = n)) : VR c A w (.sl i g sz off len cap) x
  | mapv (i g : Nat) (x : Value) (hx : ∃ r, x = .map r) (hi : i < A.nxt) (hg : ∀ o, A.obj i = some o → g ≤ o.gen) (h : ∀ o, A.obj i = some o → o.gen = g → x = .map (some (c.β i))) : VR c A w (.mapv i g) x
  | iface (t : TypeId) (v : SV) (x : Value) (h : VR c A w v x) : VR c A w (.iface t v) (.iface t x)
  | agg (l : List SV) (cs : Array Value) (hl : cs.size = l.length)
      (h : ∀ (i : Nat) (v : SV) (x : Value), l[i]? = some v → cs[i]? = some x → VR c A w v x) : VR c A w (.agg l) (.agg cs)
  | tup (l : List SV) (cs : Array Value) (hl : cs.size = l.length)
      (h : ∀ (i : Nat) (v : SV) (x : Value), l[i]? = some v → cs[i]? = some x → VR c A w v x) : VR c A w (.tup l) (.tuple cs)
  | func (fn : Fn) (a b : List SV) (a' b' : Array Value) (ha : a'.size = a.length) (hb : b'.size = b.length)
      (h : ∀ (i : Nat) (v : SV) (x : Value), a[i]? = some v → a'[i]? = some x → VR c A w v x)
      (h' : ∀ (i : Nat) (v : SV) (x : Value), b[i]? = some v → b'[i]? = some x → VR c A w v x) : VR c A w (.func fn a b) (.func fn a' b')

/-- A value that is its own word. -/
def valOf : Nat → SV → Value
  | 0, _ => undef
  | n+1, v => match v with
    | .bool b => .bool b
    | .int k m => .int k m
    | .str s => .string ⟨s.toArray⟩
    | .nilp => .pointer none
    | .nils => .slice none 0 0
    | .nilf => .nilFunc
    | .nili => .nilIface
    | .nilm => .map none
    | .agg l => .agg (l.map (valOf n)).toArray
    | _ => undef
/-- Is it one? -/
def solidB : Nat → SV → Bool
  | 0, _ => false
  | n+1, v => match v with
    | .bool _ | .int _ _ | .str _ | .nilp | .nils | .nilf | .nili | .nilm => true
    | .agg l => l.all (solidB n)
    | _ => false
def entryOf (e : SV × SV × Nat) : MapEntry := ⟨valOf 4 e.1, valOf 4 e.2.1, e.2.2⟩
/-- What a named block holds. -/
inductive OR (c : Cx) (A : Heap) (w : World) (b : Nat) : AObj → Prop
  | vec (g sz : Nat) (elems : List SV) (slack : Sk) (C : Array Value) (ty : TypeId) (fz : Nat × Nat) (hw : w.heap[b]? = some (.cells C ty fz))
      (hle : elems.length * sz ≤ C.size) (heq : slack.slack = false → elems.length * sz = C.size) (hty : ∀ t, slack.ty = some t → t = ty) (hc : ∀ v ∈ elems, v.cells.length = sz)
      (hf : ∀ k, k < C.size → ¬ (fz.1 ≤ k ∧ k < fz.2))
      (h : ∀ (i j : Nat) (e v : SV) (x : Value), elems[i]? = some e → e.cells[j]? = some v → C[i * sz + j]? = some x → VR c A w v x) : OR c A w b (.vec g sz elems slack)
  | iter (s : List UInt8) (pos : Nat) (hw : w.heap[b]? = some (.stringIter ⟨s.toArray⟩ pos)) : OR c A w b (.iter s pos)
  | map (es : List (SV × SV × Nat)) (clock : Nat) (hw : w.heap[b]? = some (.map (es.map entryOf).toArray clock)) (hs : ∀ p ∈ es, solidB 4 p.2.1 = true) : OR c A w b (.map es clock)
  | miter (m : SV) (since : Nat) (seen : List Nat) (stepped : Nat) (r : Option Nat) (hw : w.heap[b]? = some (.mapIter r since seen.toArray stepped)) (hm : VR c A w m (.map r)) : OR c A w b (.miter m since seen stepped)
  | fro (g : Nat) (ty : TypeId) (xs : List SV) (C : Array Value) (fz : Nat × Nat) (hw : w.heap[b]? = some (.cells C ty fz)) (hle : xs.length ≤ C.size) (hc : ∀ (j : Nat) (m : Int), xs[j]? = some (.int .u8 m) → C[j]? = some (.int .u8 m)) : OR c A w b (.fro g ty xs)

/-- A package variable of plain numbers, as its cells. -/
def globSV (g : Nat) : Option SV := match globTab g with
  | [] => none
  | l => some (.agg (l.map fun p => .int p.1 p.2))
/-- The program's tables stand in blocks that nobody writes any more. -/
def GlobOk (Im : Nat → Prop) (w : World) : Prop := (∀ g v, globSV g = some v → Im g ∧ ∃ C ty fz, w.heap[g]? = some (.cells C ty fz) ∧ v.cells.length = C.size ∧
  ∀ (j : Nat) (u : SV) (x : Value), v.cells[j]? = some u → C[j]? = some x → VP Im w u x) ∧
  ∀ g, g ∈ globIf → Im g ∧ ∃ v ty fz, w.heap[g]? = some (.cells #[v] ty fz) ∧ (v = .nilIface ∨ ∃ te pe, v = .iface te pe)
theorem GlobOk.mono {Im Im' : Nat → Prop} {w w' : World} (h : GlobOk Im w) (hI : ∀ b, Im b → Im' b) (hh : ∀ b, Im b → w'.heap[b]? = w.heap[b]?) : GlobOk Im' w' := ⟨fun g v hg => by
  obtain ⟨h1, C, ty, fz, h2, h3, h4⟩ := h.1 g v hg
  exact ⟨hI g h1, C, ty, fz, (hh g h1).trans h2, h3, fun j u x hu hx => (h4 j u x hu hx).mono hI hh⟩, fun g hg => by
  obtain ⟨h1, v, ty, fz, h2, h3⟩ := h.2 g hg
  exact ⟨hI g h1, v, ty, fz, (hh g h1).trans h2, h3⟩⟩
structure Rep (c : Cx) (A : Heap) (w : World) : Prop where
  lt : ∀ i o, A.obj i = some o → i < A.nxt
  obj : ∀ i o, A.obj i = some o → OR c A w (c.β i) o
  inj : ∀ i j o p, A.obj i = some o → A.obj j = some p → c.β i = c.β j → i = j
  apart : ∀ i o, A.obj i = some o → ¬ c.Im (c.β i)
  im : ∀ b, c.Im b → b < w.heap.size
  glob : GlobOk c.Im w

/-- What became of named memory, and that nothing else turned. -/
structure Ext (c : Cx) (A : Heap) (w : World) (c' : Cx) (A' : Heap) (w' : World) : Prop where
  os : w'.os = w.os
  tape : w'.tape = w.tape
  output : w'.output = w.output
  size : w.heap.size ≤ w'.heap.size
  frame : ∀ b, b < w.heap.size → (∀ i o, A.obj i = some o → c.β i ≠ b) → w'.heap[b]? = w.heap[b]?
  shape : ∀ b, b < w.heap.size → w'.shape? b = w.shape? b
  im : ∀ b, c.Im b → c'.Im b
  im' : ∀ b, c'.Im b → c.Im b ∨ w.heap.size ≤ b ∨ ∃ i o, A.obj i = some o ∧ c.β i = b
  nxt : A.nxt ≤ A'.nxt
  old : ∀ i o', i < A.nxt → A'.obj i = some o' → ∃ o, A.obj i = some o ∧ o.gen ≤ o'.gen ∧ o.sz = o'.sz ∧ (o.gen = o'.gen → c'.β i = c.β i)
  new : ∀ i o', A'.obj i = some o' → w.heap.size ≤ c'.β i ∨ ∃ o, A.obj i = some o ∧ c'.β i = c.β i

theorem OR.lt {c : Cx} {A : Heap} {w : World} {b : Nat} {o : AObj} (h : OR c A w b o) : b < w.heap.size := by
  have key : ∀ x, w.heap[b]? = some x → b < w.heap.size := fun x hx => by
    rcases Nat.lt_or_ge b w.heap.size with hlt | hge
    · exact hlt
    · rw [Array.getElem?_eq_none hge] at hx; cases hx
  cases h with
  | vec g sz elems slack C ty fz hw => exact key _ hw
  | iter s pos hw => exact key _ hw
  | map es clock hw => exact key _ hw
  | miter m since seen stepped r hw => exact key _ hw
  | fro g ty xs C fz hw => exact key _ hw

theorem Ext.refl {c : Cx} {A : Heap} {w : World} : Ext c A w c A w :=
  ⟨rfl, rfl, rfl, Nat.le_refl _, fun _ _ _ => rfl, fun _ _ => rfl, fun _ h => h, fun _ h => .inl h, Nat.le_refl _,
   fun _ o' _ h => ⟨o', h, Nat.le_refl _, rfl, fun _ => rfl⟩, fun _ o' h => .inr ⟨o', h, rfl⟩⟩

theorem Ext.trans {c c' c'' : Cx} {A A' A'' : Heap} {w w' w'' : World} (hr : Rep c A w) (h : Ext c A w c' A' w') (k : Ext c' A' w' c'' A'' w'') : Ext c A w c'' A'' w'' where
  os := k.os.trans h.os
  tape := k.tape.trans h.tape
  output := k.output.trans h.output
  size := Nat.le_trans h.size k.size
  frame b hb hn := by
    rw [k.frame b (Nat.lt_of_lt_of_le hb h.size) ?_, h.frame b hb hn]
    intro i o' ho' he
    rcases h.new i o' ho' with hge | ⟨o, ho, hβ⟩
    · omega
    · exact hn i o ho (hβ ▸ he)
  shape b hb := (k.shape b (Nat.lt_of_lt_of_le hb h.size)).trans (h.shape b hb)
  im b hb := k.im b (h.im b hb)
  im' b hb := by
    rcases k.im' b hb with hb | hb | ⟨i, o', ho', he⟩
    · exact h.im' b hb
    · exact .inr (.inl (Nat.le_trans h.size hb))
    · rcases h.new i o' ho' with hge | ⟨o, ho, hβ⟩
      · exact .inr (.inl (he ▸ hge))
      · exact .inr (.inr ⟨i, o, ho, hβ ▸ he⟩)
  nxt := Nat.le_trans h.nxt k.nxt
  old i o'' hi ho'' := by
    obtain ⟨o', ho', hg, hs, hβ⟩ := k.old i o'' (Nat.lt_of_lt_of_le hi h.nxt) ho''
    obtain ⟨o, ho, hg', hs', hβ'⟩ := h.old i o' hi ho'
    exact ⟨o, ho, Nat.le_trans hg' hg, hs'.trans hs, fun e => by rw [hβ (by omega), hβ' (by omega)]⟩
  new i o'' ho'' := by
    rcases k.new i o'' ho'' with hge | ⟨o', ho', hβ⟩
    · exact .inl (Nat.le_trans h.size hge)
    · rcases h.new i o' ho' with hge | ⟨o, ho, hβ'⟩
      · exact .inl (hβ ▸ hge)
      · exact .inr ⟨o, ho, hβ.trans hβ'⟩

/-- Blocks that nobody writes stay as they were. -/
theorem Ext.imSame {c c' : Cx} {A A' : Heap} {w w' : World} (hr : Rep c A w) (h : Ext c A w c' A' w') (b : Nat) (hb : c.Im b) : w'.heap[b]? = w.heap[b]? :=
  h.frame b (hr.im b hb) fun i o ho he => hr.apart i o ho (he ▸ hb)

theorem Rep.globx {c c' : Cx} {A A' : Heap} {w w' : World} (hr : Rep c A w) (h : Ext c A w c' A' w') : GlobOk c'.Im w' := hr.glob.mono h.im fun b hb => h.imSame hr b hb
theorem VR.mono {c c' : Cx} {A A' : Heap} {w w' : World} (hr : Rep c A w) (he : Ext c A w c' A' w') {v : SV} {x : Value} (h : VR c A w v x) : VR c' A' w' v x := by
  induction h with
  | pure h => exact .pure (h.mono he.im (he.imSame hr))
  | ref i g idx sub x hx hi hg h =>
    refine .ref i g idx sub x hx (Nat.lt_of_lt_of_le hi he.nxt) (fun o' ho' => ?_) fun o' ho' hgo => ?_
    · obtain ⟨o, ho, hg', _, _⟩ := he.old i o' hi ho'
      exact Nat.le_trans (hg o ho) hg'
    · obtain ⟨o, ho, hg', hs, hβ⟩ := he.old i o' hi ho'
      have hgo' : o.gen = g := by have := hg o ho; omega
      rw [h o ho hgo', hs, hβ (by omega)]
  | sl i g sz off len cap x hx hi hg h =>
    refine .sl i g sz off len cap x hx (Nat.lt_of_lt_of_le hi he.nxt) (fun o' ho' => ?_) fun o' ho' hgo => ?_
    · obtain ⟨o, ho, hg', _, _⟩ := he.old i o' hi ho'
      exact Nat.le_trans (hg o ho) hg'
    · obtain ⟨o, ho, hg', hs, hβ⟩ := he.old i o' hi ho'
      have hgo' : o.gen = g := by have := hg o ho; omega
      obtain ⟨hsz, a, cc, hx, hl, hk, hor, hfu⟩ := h o ho hgo'
      have hβ' := hβ (by omega)
      refine ⟨hs.symm.trans hsz, a, cc, hx, hl, hk, hor.imp id ?_, fun hc => ?_⟩
      · rintro ⟨ha, ty, n, hsh, hle⟩
        refine ⟨by rw [ha, hβ'], ty, n, ?_, hle⟩
        rw [hβ', he.shape _ (hr.obj i o ho).lt, hsh]
      · obtain ⟨ty, n, hsh, hle⟩ := hfu hc
        exact ⟨ty, n, by rw [hβ', he.shape _ (hr.obj i o ho).lt, hsh], hle⟩
  | mapv i g x hx hi hg h =>
    refine .mapv i g x hx (Nat.lt_of_lt_of_le hi he.nxt) (fun o' ho' => ?_) fun o' ho' hgo => ?_
    · obtain ⟨o, ho, hg', _, _⟩ := he.old i o' hi ho'
      exact Nat.le_trans (hg o ho) hg'
    · obtain ⟨o, ho, hg', hs, hβ⟩ := he.old i o' hi ho'
      have hgo' : o.gen = g := by have := hg o ho; omega
      rw [h o ho hgo', hβ (by omega)]
  | iface t v x _ ih => exact .iface t v x ih
  | agg l cs hl _ ih => exact .agg l cs hl ih
  | tup l cs hl _ ih => exact .tup l cs hl ih
  | func fn a b a' b' ha hb _ _ ih ih' => exact .func fn a b a' b' ha hb ih ih'

/-! What a symbolic value's form says of the value. -/
section inv
variable {c : Cx} {A : Heap} {w : World} {x : Value}
theorem VR.bool_inv {b : Bool} (h : VR c A w (.bool b) x) : x = .bool b := by cases h with | pure h => cases h; rfl
theorem VR.int_inv {k : IntKind} {n : Int} (h : VR c A w (.int k n) x) : x = .int k n := by cases h with | pure h => cases h; rfl
theorem VR.str_inv {s : List UInt8} (h : VR c A w (.str s) x) : x = .string ⟨s.toArray⟩ := by cases h with | pure h => cases h; rfl
theorem VR.nilp_inv (h : VR c A w .nilp x) : x = .pointer none := by cases h with | pure h => cases h; rfl
theorem VR.glob_inv {g : Nat} (h : VR c A w (.glob g) x) : x = .pointer (some ⟨g, 0, none⟩) := by cases h with | pure h => cases h; rfl
theorem VR.nils_inv (h : VR c A w .nils x) : x = .slice none 0 0 := by cases h with | pure h => cases h; rfl
theorem VR.nilf_inv (h : VR c A w .nilf x) : x = .nilFunc := by cases h with | pure h => cases h; rfl
theorem VR.nili_inv (h : VR c A w .nili x) : x = .nilIface := by cases h with | pure h => cases h; rfl
theorem VR.nilm_inv (h : VR c A w .nilm x) : x = .map none := by cases h with | pure h => cases h; rfl
theorem VR.mapv_inv {i g : Nat} (h : VR c A w (.mapv i g) x) {o : AObj} (ho : A.obj i = some o) (hg : o.gen = g) : x = .map (some (c.β i)) := by
  cases h with
  | pure h => cases h
  | mapv i g x hx hi hg' h => exact h o ho hg
theorem VR.iface_inv {t : TypeId} {v : SV} (h : VR c A w (.iface t v) x) : ∃ y, x = .iface t y ∧ VR c A w v y := by
  cases h with
  | pure h => cases h with | iface t v x h => exact ⟨_, rfl, .pure h⟩
  | iface t v x h => exact ⟨_, rfl, h⟩
theorem VR.agg_inv {l : List SV} (h : VR c A w (.agg l) x) : ∃ cs : Array Value, x = .agg cs ∧ cs.size = l.length ∧ ∀ (i : Nat) (v : SV) (y : Value), l[i]? = some v → cs[i]? = some y → VR c A w v y := by
  cases h with
  | pure h => cases h with | agg l cs hl h => exact ⟨cs, rfl, hl, fun i v y a b => .pure (h i v y a b)⟩
  | agg l cs hl h => exact ⟨cs, rfl, hl, h⟩
theorem VR.tup_inv {l : List SV} (h : VR c A w (.tup l) x) : ∃ cs : Array Value, x = .tuple cs ∧ cs.size = l.length ∧ ∀ (i : Nat) (v : SV) (y : Value), l[i]? = some v → cs[i]? = some y → VR c A w v y := by
  cases h with
  | pure h => cases h with | tup l cs hl h => exact ⟨cs, rfl, hl, fun i v y a b => .pure (h i v y a b)⟩
  | tup l cs hl h => exact ⟨cs, rfl, hl, h⟩
theorem VR.func_inv {fn : Fn} {a b : List SV} (h : VR c A w (.func fn a b) x) : ∃ a' b' : Array Value, x = .func fn a' b' ∧ a'.size = a.length ∧ b'.size = b.length ∧
    (∀ (i : Nat) (v : SV) (y : Value), a[i]? = some v → a'[i]? = some y → VR c A w v y) ∧ (∀ (i : Nat) (v : SV) (y : Value), b[i]? = some v → b'[i]? = some y → VR c A w v y) := by
  cases h with
  | pure h => cases h with | func fn a b a' b' ha hb h h' => exact ⟨a', b', rfl, ha, hb, fun i v y p q => .pure (h i v y p q), fun i v y p q => .pure (h' i v y p q)⟩
  | func fn a b a' b' ha hb h h' => exact ⟨a', b', rfl, ha, hb, h, h'⟩
theorem VR.ref_inv {i g idx sub : Nat} (h : VR c A w (.ref i g idx sub) x) {o : AObj} (ho : A.obj i = some o) (hg : o.gen = g) : x = .pointer (some ⟨c.β i, idx * o.sz + sub, none⟩) := by
  cases h with
  | pure h => cases h
  | ref i g idx sub x hx hi hg' h => exact h o ho hg
theorem VR.sl_inv {i g sz off len : Nat} {cap : Option Nat} (h : VR c A w (.sl i g sz off len cap) x) {o : AObj} (ho : A.obj i = some o) (hg : o.gen = g) :
    o.sz = sz ∧ ∃ a cc, x = .slice (some a) len cc ∧ len ≤ cc ∧ (∀ k, cap = some k → cc = k) ∧
      (cc = 0 ∨ a = ⟨c.β i, off * sz, none⟩ ∧ ∃ ty n, w.shape? (c.β i) = some (ty, n) ∧ off * sz + cc * sz ≤ n) := by
  cases h with
  | pure h => cases h
  | sl i g sz off len cap x hx hi hg' h =>
    obtain ⟨h1, a, cc, h2, h3, h4, h5, _⟩ := h o ho hg
    exact ⟨h1, a, cc, h2, h3, h4, h5⟩
/-- A slice whose room is not told reaches to its block's end. -/
theorem VR.sl_full {i g sz off len : Nat} (h : VR c A w (.sl i g sz off len none) x) {o : AObj} (ho : A.obj i = some o) (hg : o.gen = g) {a : Option Addr} {l cc : Nat} (hx : x = .slice a l cc) :
    ∃ ty n, w.shape? (c.β i) = some (ty, n) ∧ off * sz + cc * sz = n := by
  cases h with
  | pure h => cases h
  | sl i g sz off len cap x hx' hi hg' h =>
    obtain ⟨h1, a', cc', h2, h3, h4, h5, h6⟩ := h o ho hg
    rw [hx] at h2
    cases h2
    exact h6 rfl
theorem VR.lst_inv {sz n : Nat} {get : Nat → SV} (h : VR c A w (.lst sz n get) x) : ∃ a cap, x = .slice a n cap ∧ n ≤ cap ∧
    (n = 0 ∨ ∃ b off C ty fz, a = some ⟨b, off, none⟩ ∧ c.Im b ∧ w.heap[b]? = some (.cells C ty fz) ∧ off + n * sz ≤ C.size ∧ (∀ i, i < n → (get i).cells.length = sz) ∧
      ∀ (i j : Nat) (v : SV) (y : Value), i < n → (get i).cells[j]? = some v → C[off + i * sz + j]? = some y → VP c.Im w v y) := by
  cases h with
  | pure h =>
    cases h with
    | lst0 sz get a cap => exact ⟨a, cap, rfl, Nat.zero_le _, .inl rfl⟩
    | lst sz n get b off cap C ty fz hb hw hn hcap hc h => exact ⟨_, cap, rfl, hcap, .inr ⟨b, off, C, ty, fz, rfl, hb, hw, hn, hc, h⟩⟩
theorem VR.ipt_inv {v : SV} {sub : Nat} (h : VR c A w (.ipt v sub) x) : ∃ b o C ty fz, x = .pointer (some ⟨b, o + sub, none⟩) ∧ c.Im b ∧ w.heap[b]? = some (.cells C ty fz) ∧
    o + v.cells.length ≤ C.size ∧ ∀ (j : Nat) (u : SV) (y : Value), v.cells[j]? = some u → C[o + j]? = some y → VP c.Im w u y := by
  cases h with
  | pure h => cases h with | ipt v sub b o C ty fz hb hw hn h => exact ⟨b, o, C, ty, fz, rfl, hb, hw, hn, h⟩
theorem VR.undef : VR c A w .undef x := .pure (.undef x)
theorem VR.bool {b : Bool} : VR c A w (.bool b) (.bool b) := .pure (.bool b)
theorem VR.int {k : IntKind} {n : Int} : VR c A w (.int k n) (.int k n) := .pure (.int k n)
theorem VR.str {s : List UInt8} : VR c A w (.str s) (.string ⟨s.toArray⟩) := .pure (.str s)

theorem VR.noAgg {v : SV} (h : VR c A w v x) (hu : v ≠ .undef) (hv : ∀ l, v ≠ .agg l) : x.cells = #[x] := by
  cases h with
  | pure h => cases h <;> first | rfl | exact absurd rfl hu | exact absurd rfl (hv _)
  | ref i g idx sub x hx hi hg h => obtain ⟨a, rfl⟩ := hx; rfl
  | sl i g sz off len cap x hx hi hg h => obtain ⟨a, l, c, rfl⟩ := hx; rfl
  | mapv i g x hx hi hg h => obtain ⟨r, rfl⟩ := hx; rfl
  | iface t v x h => rfl
  | agg l cs hl h => exact absurd rfl (hv _)
  | tup l cs hl h => rfl
  | func => rfl
theorem solid_eq : ∀ (n : Nat) (v : SV) (x : Value), solidB n v = true → VR c A w v x → x = valOf n v
  | 0, v, x, hs, _ => by cases hs
  | n+1, v, x, hs, hv => by
    unfold solidB at hs
    unfold valOf
    split at hs
    · exact hv.bool_inv
    · exact hv.int_inv
    · exact hv.str_inv
    · exact hv.nilp_inv
    · exact hv.nils_inv
    · exact hv.nilf_inv
    · exact hv.nili_inv
    · exact hv.nilm_inv
    · rename_i l
      obtain ⟨cs, rfl, hl, hc⟩ := hv.agg_inv
      show Value.agg cs = .agg (l.map (valOf n)).toArray
      congr 1
      apply Array.ext_getElem?
      intro i
      rcases Nat.lt_or_ge i l.length with hi | hi
      · have h1 : l[i]? = some l[i] := List.getElem?_eq_getElem hi
        have h2 : cs[i]? = some (cs[i]'(by omega)) := Array.getElem?_eq_getElem _
        have := solid_eq n _ _ (List.all_eq_true.1 hs _ (List.getElem_mem hi)) (hc i _ _ h1 h2)
        rw [h2, this]
        simp [h1]
      · rw [Array.getElem?_eq_none (by omega)]
        simp [hi]
    · cases hs
theorem solid_vp {Im : Nat → Prop} : ∀ (n : Nat) (v : SV), solidB n v = true → VP Im w v (valOf n v)
  | 0, v, hs => by cases hs
  | n+1, v, hs => by
    unfold solidB at hs
    unfold valOf
    split at hs
    · exact .bool _
    · exact .int _ _
    · exact .str _
    · exact .nilp
    · exact .nils
    · exact .nilf
    · exact .nili
    · exact .nilm
    · rename_i l
      refine .agg _ _ (by simp) fun i v x h1 h2 => ?_
      simp only [List.getElem?_toArray, List.getElem?_map, h1, Option.map_some, Option.some.injEq] at h2
      rw [← h2]
      exact solid_vp n v (List.all_eq_true.1 hs v (List.mem_of_getElem? h1))
    · cases hs
end inv
/-- The same but for how rows are read. -/
inductive Lk : SV → SV → Prop
  | refl (v : SV) : Lk v v
  | iface (t : TypeId) {v v' : SV} (h : Lk v v') : Lk (.iface t v) (.iface t v')
  | agg {l l' : List SV} (hl : l.length = l'.length) (h : ∀ (i : Nat) (v v' : SV), l[i]? = some v → l'[i]? = some v' → Lk v v') : Lk (.agg l) (.agg l')
  | tup {l l' : List SV} (hl : l.length = l'.length) (h : ∀ (i : Nat) (v v' : SV), l[i]? = some v → l'[i]? = some v' → Lk v v') : Lk (.tup l) (.tup l')
  | lst {sz n : Nat} {get get' : Nat → SV} (h : ∀ j, j < n → Lk (get j) (get' j)) : Lk (.lst sz n get) (.lst sz n get')
  | ipt (s : Nat) {v v' : SV} (h : Lk v v') : Lk (.ipt v s) (.ipt v' s)
end Ab
namespace Ab
set_option linter.unusedVariables false
set_option linter.unusedSimpArgs false
open Go
noncomputable section

inductive AOpd where
  | tmp (t : Nat)
  | const (v : SV)

/-- What a part of a struct that is compared is of. -/
inductive EqK where
  | int | str | bool

inductive AOp where
  | mov (x : AOpd)
  | pick (c a b : AOpd)
  | box (ty : TypeId) (sz : Nat) (x : AOpd)
  | boxR (ty : TypeId) (sz : Nat) (x : AOpd)
  | build (zero : List SV) (parts : List (Nat × Nat × AOpd))
  | buildSlice (ty : TypeId) (sz : Nat) (zero : SV) (n : Nat) (parts : List (Nat × AOpd))
  | loadS (x : AOpd)
  | loadA (n : Nat) (x : AOpd)
  | store (n : Nat) (x v : AOpd)
  | bin (op : BinOp) (x y : AOpd)
  | eqA (neg : Bool) (ks : List EqK) (x y : AOpd)
  | eqB (neg : Bool) (x y : AOpd)
  | un (op : UnOp) (x : AOpd)
  | conv (k : IntKind) (x : AOpd)
  | strMov (x : AOpd)
  | toStr (x : AOpd)
  | toBytes (ty : TypeId) (x : AOpd)
  | mkFunc (fn : Fn) (first captured : List AOpd)
  | mkIface (t : TypeId) (x : AOpd)
  | slice (sz : Nat) (x : AOpd) (lo hi : Option AOpd)
  | sliceStr (x : AOpd) (lo hi : Option AOpd)
  | sliceArr (n : Nat) (x : AOpd) (lo hi : Option AOpd)
  | fieldAddr (off : Nat) (x : AOpd)
  | fieldS (off : Nat) (x : AOpd)
  | fieldA (off n : Nat) (x : AOpd)
  | indexAddr (sz : Nat) (x i : AOpd)
  | indexArr (n sz : Nat) (x i : AOpd)
  | index (x i : AOpd)
  | extract (x : AOpd) (i : Nat)
  | len (isStr : Bool) (x : AOpd)
  | mm (isMax : Bool) (x y : AOpd)
  | makeSlice (ty : TypeId) (sz bytes : Nat) (zero : SV) (l c : AOpd)
  | append (ty : TypeId) (sz bytes : Nat) (s x : AOpd)
  | call (f : FuncId) (args : List AOpd)
  | callv (f : AOpd) (args : List AOpd)
  | nilChk (x : AOpd)
  | toUns (x : AOpd)
  | fromUns (u : TypeId) (sz : Nat) (x : AOpd)
  | noEsc (x : AOpd)
  | ext1 (id : Nat) (x y : AOpd)
  | mkNoZero (ty : TypeId) (x : AOpd)
  | eqP (neg : Bool) (x y : AOpd)
  | sliceData (x : AOpd)
  | unsStr (e : TypeId) (x n : AOpd)
  | capOf (x : AOpd)
  | panic (x : AOpd)
  | rangeS (x : AOpd)
  | nextS (x : AOpd)
  | rangeM (x : AOpd)
  | nextM (x : AOpd)
  | mkMap
  | mapSet (isStr : Bool) (m k v : AOpd)
  | mapGet (isStr : Bool) (zero : SV) (ok : Bool) (m k : AOpd)
  | lenM (x : AOpd)
  | tyAs (t : TypeId) (zero : SV) (ok : Bool) (x : AOpd)
  | eqI (neg : Bool) (x y : AOpd)
  | eqN (neg : Bool) (x y : AOpd)
  | entry (x : AOpd)
  | slice3 (sz : Nat) (x : AOpd) (lo hi : Option AOpd) (mx : AOpd)
  | copyZ (x y : AOpd)
  | clr (sz : Nat) (zero : SV) (x : AOpd)
  | dfr (f : AOpd) (args : List AOpd)
  | rcv
  | bad

structure AOper where
  dst : Option Nat
  op : AOp
  guard : Option (Nat × Bool) := none
  pre : List Nat := []

inductive ACode where
  | skip
  | region (ops : List AOper) (forget : List Nat)
  | dregion (ops : List AOper) (ord : List (Nat × Bool × List Nat)) (forget : List Nat)
  | seq (a b : ACode)
  | cond (c : AOpd) (a b : ACode)
  | block (id : Nat) (b : ACode)
  | loop (b : ACode)
  | exit (id : Nat)
  | ret
  | bad

inductive AExit where
  | normal | exit (id : Nat) | ret | panic (v : SV)

inductive AEnd where
  | ret (v : SV) | pan (v : SV)

abbrev Env := List (Nat × SV)

def Env.get : Env → Nat → SV
  | [], _ => .undef
  | (s, v) :: r, t => bif Nat.beq s t then v else Env.get r t
def Env.put : Env → Nat → SV → Env
  | [], t, v => [(t, v)]
  | (s, w) :: r, t, v => bif Nat.beq s t then (t, v) :: r else (s, w) :: Env.put r t v
def Env.drop : Env → Nat → Env
  | [], _ => []
  | (s, w) :: r, t => bif Nat.beq s t then Env.drop r t else (s, w) :: Env.drop r t

/-! Everything in the form 'and then': what has been reckoned is handed on written out. -/
def Env.getK {α : Sort _} : Env → Nat → (SV → α) → α
  | [], _, k => k .undef
  | (s, v) :: r, t, k => @Bool.rec (fun _ => α) (Env.getK r t k) (k v) (Nat.beq s t)
def Env.putK {α : Sort _} : Env → Nat → SV → (Env → α) → α
  | [], t, v, k => k [(t, v)]
  | (s, w) :: r, t, v, k => @Bool.rec (fun _ => α) (Env.putK r t v fun r' => k ((s, w) :: r')) (k ((t, v) :: r)) (Nat.beq s t)
def Env.dropK {α : Sort _} : Env → Nat → (Env → α) → α
  | [], _, k => k []
  | (s, w) :: r, t, k => @Bool.rec (fun _ => α) (Env.dropK r t fun r' => k ((s, w) :: r')) (Env.dropK r t k) (Nat.beq s t)
def Env.dropsK {α : Sort _} : List Nat → Env → (Env → α) → α
  | [], e, k => k e
  | t :: ts, e, k => Env.dropK e t fun e' => Env.dropsK ts e' k

def lookO {α : Sort _} : List (Nat × AObj) → Nat → (AObj → α) → α → α
  | [], _, _, d => d
  | (s, o) :: r, i, k, d => @Bool.rec (fun _ => α) (lookO r i k d) (k o) (Nat.beq s i)
def setO {α : Sort _} : List (Nat × AObj) → Nat → AObj → (List (Nat × AObj) → α) → α
  | [], _, _, k => k []
  | (s, o) :: r, i, o', k => @Bool.rec (fun _ => α) (setO r i o' fun r' => k ((s, o) :: r')) (k ((s, o') :: r)) (Nat.beq s i)

/-- 'where b holds': else nothing is shown. -/
@[reducible] def asr (b : Bool) (p : Prop) : Prop := @Bool.rec (fun _ => Prop) False p b

def AOpd.evK {α : Sort _} (e : Env) (x : AOpd) (k : SV → α) : α := match x with
  | .tmp t => Env.getK e t k
  | .const v => k v
def evsK {α : Sort _} (e : Env) : List AOpd → (List SV → α) → α
  | [], k => k []
  | x :: r, k => x.evK e fun v => evsK e r fun vs => k (v :: vs)

/-- The cells of a known value. -/
def SV.cellsK (v : SV) (k : List SV → Prop) : Prop :=
  match v with
  | .undef => False
  | .agg l => k l
  | v => k [v]

def getL {α : Type _} : List α → Nat → Option α
  | [], _ => none
  | x :: r, i => match i with | 0 => some x | i+1 => getL r i
def setL {α : Type _} : List α → Nat → α → (List α → Prop) → Prop
  | [], _, _, _ => False
  | x :: r, i, v, k => match i with | 0 => k (v :: r) | i+1 => setL r i v fun r' => k (x :: r')
def setRun : List SV → Nat → List SV → (List SV → Prop) → Prop
  | l, _, [], k => k l
  | l, i, v :: vs, k => setL l i v fun l' => setRun l' (i+1) vs k
def takeN : List SV → Nat → (List SV → Prop) → Prop
  | _, 0, k => k []
  | [], _+1, _ => False
  | x :: r, n+1, k => takeN r n fun r' => k (x :: r')
def dropN : List SV → Nat → (List SV → Prop) → Prop
  | l, 0, k => k l
  | [], _+1, _ => False
  | _ :: r, n+1, k => dropN r n k
def replK : Nat → SV → (List SV → Prop) → Prop
  | 0, _, k => k []
  | n+1, v, k => replK n v fun l => k (v :: l)

/-- What a pointer points into: the cells, and at which one. -/
def readP (h : Heap) (p : SV) (k : List SV → Nat → Prop) : Prop :=
  match p with
  | .ipt v sub => v.cellsK fun cs => k cs sub
  | .glob g => match globSV g with
    | some v => v.cellsK fun cs => k cs 0
    | none => False
  | .ref i g idx sub => match h with
    | ⟨_, hl⟩ => lookO hl i (fun o => match o with
      | .vec g' _ elems _ => asr (Nat.beq g' g) (match getL elems idx with
          | some v => v.cellsK fun cs => k cs sub
          | none => False)
      | _ => False) False
  | _ => False

/-- Does a name of this age still mean its block? -/
def liveK (h : Heap) (i g : Nat) (k : Prop) : Prop := match h with
  | ⟨_, hl⟩ => lookO hl i (fun o => match o with
    | .vec g' _ _ _ => asr (Nat.beq g' g) k
    | _ => False) False
def liveF (h : Heap) (i g : Nat) (k : Prop) : Prop := match h with
  | ⟨_, hl⟩ => lookO hl i (fun o => match o with
    | .vec g' _ _ _ => asr (Nat.beq g' g) k
    | .fro g' _ _ => asr (Nat.beq g' g) k
    | _ => False) False

/-- The place of an element of an array: a row's own element, or cells of a block's. -/
def idxK (h : Heap) (i g idx sub j sz : Nat) (k : SV → Prop) : Prop := match h with
  | ⟨_, hl⟩ => lookO hl i (fun o => match o with
    | .vec g' sz' _ _ => asr (Nat.beq g' g) (@Bool.rec (fun _ => Prop) (k (.ref i g idx (sub + j * sz))) (k (.ref i g (idx + j) sub)) (Nat.beq sz' sz))
    | _ => False) False
def storeV (w v : SV) (sub : Nat) (k : SV → Prop) : Prop :=
  match w with
  | .agg cs => v.cellsK fun vs => setRun cs sub vs fun cs' => k (.agg cs')
  | _ => match v with
    | .agg _ => False
    | v => match sub with | 0 => k v | _+1 => False
def SV.known : SV → Bool
  | .undef => false
  | _ => true
def SV.one : SV → Bool
  | .undef | .agg _ | .tup _ => false
  | _ => true
def allOne : List SV → Bool
  | [] => true
  | v :: r => v.one && allOne r
def storeP (n : Nat) (h : Heap) (p v : SV) (k : Heap → Prop) : Prop :=
  v.cellsK fun vs => asr (Nat.beq vs.length n && allOne vs) (match p, h with
  | .ref i g idx sub, ⟨m, hl⟩ => lookO hl i (fun o => match o with
      | .vec g' sz elems sk => asr (Nat.beq g' g) (match getL elems idx with
        | some w => storeV w v sub fun w' => setL elems idx w' fun elems' => setO hl i (.vec g' sz elems' sk) fun l' => k ⟨m, l'⟩
        | none => False)
      | _ => False) False
  | _, _ => False)

def kEq (k k' : IntKind) : Bool := match k, k' with
  | .i8, .i8 | .i16, .i16 | .i32, .i32 | .i64, .i64 | .u8, .u8 | .u16, .u16 | .u32, .u32 | .u64, .u64 => true
  | _, _ => false

def eqOne (e : EqK) (x y : SV) : Option Bool := match e, x, y with
  | .int, .int k a, .int k' b => (match kEq k k' with | true => some (a == b) | false => none)
  | .str, .str a, .str b => some (a == b)
  | .bool, .bool a, .bool b => some (a == b)
  | _, _, _ => none
def eqCells : List EqK → List SV → List SV → Option Bool
  | [], _, _ => some true
  | e :: es, x :: xs, y :: ys =>
    match eqOne e x y with
    | some p => (match es with
        | [] => some p
        | es => (eqCells es xs ys).map fun q => p && q)
    | none => none
  | _, _, _ => none

/-- Bitwise operations on an integer's bits. -/
def bitsI (op : BinOp) (k : IntKind) (x y : Int) : Int :=
  let a := BitVec.ofInt k.bits x
  let b := BitVec.ofInt k.bits y
  match op with
  | .and => k.wrap (a &&& b).toNat
  | .or => k.wrap (a ||| b).toNat
  | .xor => k.wrap (a ^^^ b).toNat
  | _ => k.wrap (a &&& ~~~b).toNat

def arith (op : BinOp) (k k' : IntKind) (a b : Int) (K : SV → Prop) : Prop :=
  match op with
  | .shl => asr (decide (0 ≤ b)) (K (.int k (k.wrap (a * 2 ^ (min b.toNat k.bits)))))
  | .shr => asr (decide (0 ≤ b)) (K (.int k (a.fdiv (2 ^ (min b.toNat k.bits)))))
  | op => asr (kEq k k') (match op with
    | .add => K (.int k (k.wrap (a + b)))
    | .sub => K (.int k (k.wrap (a - b)))
    | .mul => K (.int k (k.wrap (a * b)))
    | .quo => asr (!decide (b = 0)) (K (.int k (k.wrap (a.tdiv b))))
    | .rem => asr (!decide (b = 0)) (K (.int k (a.tmod b)))
    | .eql => K (.bool (a == b))
    | .neq => K (.bool (a != b))
    | .lss => K (.bool (decide (a < b)))
    | .leq => K (.bool (decide (a ≤ b)))
    | .gtr => K (.bool (decide (b < a)))
    | .geq => K (.bool (decide (b ≤ a)))
    | .and => K (.int k (bitsI .and k a b))
    | .or => K (.int k (bitsI .or k a b))
    | .xor => K (.int k (bitsI .xor k a b))
    | .andNot => K (.int k (bitsI .andNot k a b))
    | _ => False)

def strLess (a b : List UInt8) : Bool := Go.Op.bytesLess a b
def strOp (op : BinOp) (a b : List UInt8) (K : SV → Prop) : Prop :=
  match op with
  | .add => asr (decide (a.length + b.length ≤ 9223372036854775807)) (K (.str (a ++ b)))
  | .eql => K (.bool (a == b))
  | .neq => K (.bool (!(a == b)))
  | .lss => K (.bool (strLess a b))
  | .leq => K (.bool (strLess a b || a == b))
  | .gtr => K (.bool (!(strLess a b || a == b)))
  | .geq => K (.bool (!strLess a b))
  | _ => False

def fillParts (e : Env) : List (Nat × Nat × AOpd) → List SV → (List SV → Prop) → Prop
  | [], cs, k => k cs
  | (off, sz, x) :: r, cs, k => x.evK e fun v => v.cellsK fun vs => asr (Nat.beq vs.length sz && Nat.ble (off + sz) cs.length) (setRun cs off vs fun cs' => fillParts e r cs' k)
def fillElems (sz : Nat) (e : Env) : List (Nat × AOpd) → List SV → (List SV → Prop) → Prop
  | [], cs, k => k cs
  | (i, x) :: r, cs, k => x.evK e fun v => v.cellsK fun vs => asr (Nat.beq vs.length sz) (setL cs i v fun cs' => fillElems sz e r cs' k)
def oevK (e : Env) (d : Int) (x : Option AOpd) (k : Int → Prop) : Prop := match x with
  | none => k d
  | some y => y.evK e fun v => match v with | .int _ n => k n | _ => False

/-- A call of the program, from symbolic memory on. -/
structure ACall (P : Program) (f : FuncId) (args : List SV) (h : Heap) (k : AEnd → Heap → Prop) : Prop where
  calls : ∀ (c : Cx) (w : World) (xs : Array Value), Rep c h w → xs.size = args.length → (∀ (i : Nat) (v : SV) (x : Value), args[i]? = some v → xs[i]? = some x → VR c h w v x) →
    Calls P f xs w fun e w' => ∃ c' h' r, k r h' ∧ Rep c' h' w' ∧ Ext c h w c' h' w' ∧ match r with
      | .ret v => ∃ x, e = .returned x ∧ VR c' h' w' v x
      | .pan v => ∃ x, e = .panicked [{ v := x, recovered := false }] ∧ VR c' h' w' v x

/-- What is known of calls; how it is shown that a value is still the same. -/
structure CallR where
  call : FuncId → List SV → Heap → (AEnd → Heap → Prop) → Prop
  same : SV → SV → Prop → Prop
@[reducible] def aCall (P : Program) : CallR := ⟨ACall P, fun v v' p => v = v' ∧ p⟩
structure CallR.Ok (P : Program) (Γ : CallR) : Prop where
  call : ∀ f a h k, Γ.call f a h k → ACall P f a h k
  same : ∀ v v' p, Γ.same v v' p → Lk v' v ∧ p
theorem aCall_ok {P : Program} : (aCall P).Ok P := ⟨fun _ _ _ _ h => h, fun _ _ _ h => ⟨h.1 ▸ .refl _, h.2⟩⟩

def callable (P : Program) (f : FuncId) : Bool := match P.funcs[f]? with
  | some fn => fn.body.isSome && fn.name != "runtime.NumGoroutine"
  | none => false

def rangeK (get : Nat → SV) : Nat → Nat → (List SV → Prop) → Prop
  | 0, _, k => k []
  | m+1, j, k => rangeK get m (j + 1) fun r => k (get j :: r)
def strK : List UInt8 → (List SV → Prop) → Prop
  | [], k => k []
  | b :: r, k => strK r fun l => k (.int .u8 b.toNat :: l)
def appL : List SV → List SV → (List SV → Prop) → Prop
  | [], m, k => k m
  | v :: r, m, k => appL r m fun r' => k (v :: r')
/-- The elements of a slice, or a text's bytes. -/
def elemsK (h : Heap) (sz : Nat) (x : SV) (k : List SV → Prop) : Prop := match x with
  | .nils => k []
  | .str s => asr (Nat.beq sz 1) (strK s k)
  | .lst sz' n get => asr (Nat.beq sz' sz) (rangeK get n 0 k)
  | .sl i g sz' off len _ => asr (Nat.beq sz' sz) (match h with
    | ⟨_, hl⟩ => lookO hl i (fun o => match o with
      | .vec g' _ elems _ => asr (Nat.beq g' g) (dropN elems off fun l => takeN l len k)
      | _ => False) False)
  | _ => False
def allOnes : List SV → Bool
  | [] => true
  | v :: r => allOne v.cells && allOnes r
/-- A row's type, if both are of it. -/
def joinTy : Option TypeId → TypeId → Option TypeId
  | some t, u => bif Nat.beq t u then some u else none
  | none, _ => none
/-- Elements put behind a slice: into spare room, into a new row; where the room is not known the row's names grow old. -/
def appendK (ty : TypeId) (sz bytes : Nat) (h : Heap) (s x : SV) (k : SV → Heap → Prop) : Prop :=
  elemsK h sz x fun xs => match xs with
  | [] => (match s with
    | .nils => k .nils h
    | .sl i g sz' off len cap => liveK h i g (k (.sl i g sz' off len cap) h)
    | .lst sz' n get => k (.lst sz' n get) h
    | _ => False)
  | x0 :: xr => asr (allOnes (x0 :: xr)) (match s with
    | .nils => asr (decide ((x0 :: xr).length ≤ 9223372036854775807) && decide ((x0 :: xr).length * bytes ≤ 140737488355328)) (match h with
      | ⟨m, l⟩ => k (.sl m 0 sz 0 (x0 :: xr).length none) ⟨m + 1, (m, .vec 0 sz (x0 :: xr) ⟨true, some ty⟩) :: l⟩)
    | .sl i g sz' off len cap => asr (Nat.beq sz' sz) (match h with
      | ⟨m, hl⟩ => lookO hl i (fun o => match o with
        | .vec g' szo elems sk => asr (Nat.beq g' g) (match cap with
          | some cp => @Bool.rec (fun _ => Prop)
              (asr (decide (len + (x0 :: xr).length ≤ 9223372036854775807) && decide ((len + (x0 :: xr).length) * bytes ≤ 140737488355328))
                (dropN elems off fun l1 => takeN l1 len fun l2 => appL l2 (x0 :: xr) fun l3 => k (.sl m 0 sz 0 (len + (x0 :: xr).length) none) ⟨m + 1, (m, .vec 0 sz l3 ⟨true, some ty⟩) :: hl⟩))
              (setRun elems (off + len) (x0 :: xr) fun elems' => setO hl i (.vec g' szo elems' sk) fun l' => k (.sl i g' sz off (len + (x0 :: xr).length) (some cp)) ⟨m, l'⟩)
              (Nat.ble (len + (x0 :: xr).length) cp)
          | none => @Bool.rec (fun _ => Prop) (asr (Nat.beq off 0 && Nat.beq len elems.length && (decide (len + (x0 :: xr).length ≤ 9223372036854775807) && decide ((len + (x0 :: xr).length) * bytes ≤ 140737488355328)))
              (appL elems (x0 :: xr) fun l3 => setO hl i (.vec (g' + 1) szo l3 ⟨true, joinTy sk.ty ty⟩) fun l' => k (.sl i (g' + 1) sz 0 (len + (x0 :: xr).length) none) ⟨m, l'⟩))
              (setRun elems (off + len) (x0 :: xr) fun elems' => setO hl i (.vec g' szo elems' sk) fun l' => k (.sl i g' sz off (len + (x0 :: xr).length) none) ⟨m, l'⟩)
              (Nat.blt 0 sz && Nat.ble (off + len + (x0 :: xr).length) elems.length))
        | _ => False) False)
    | _ => False)
/-- Bytes as a text. -/
def bytesK : List SV → (List UInt8 → Prop) → Prop
  | [], k => k []
  | v :: r, k => match v with
    | .int .u8 n => bytesK r fun l => k (UInt8.ofNat n.toNat :: l)
    | _ => False

/-- Entries of the library: how often a byte stands in a text; where it first does. -/
def ext1V (id : Nat) (s : List UInt8) (b : Int) : Int := match id with
  | 0 => (Lib.countByte s b.toNat.toUInt8 : Nat)
  | _ => Lib.indexByte s b.toNat.toUInt8
def ext1Id (s : String) : Option Nat := bif s == "internal/bytealg.CountString" then some 0 else bif s == "internal/bytealg.IndexByteString" then some 1 else none
/-- Are these the same place, or is one of them nil? -/
def eqPK (h : Heap) (x y : SV) (k : Bool → Prop) : Prop := match x, y with
  | .nilp, .nilp => k true
  | .nilp, .ref i g _ _ => liveK h i g (k false)
  | .ref i g _ _, .nilp => liveK h i g (k false)
  | .ref i g a b, .ref i' g' a' b' => asr (Nat.beq i i' && Nat.beq g g' && (Nat.beq a a' && Nat.beq b b')) (liveK h i g (k true))
  | _, _ => False
/-- Memory without a block: its names mean nothing any more. -/
def dropO : List (Nat × AObj) → Nat → (List (Nat × AObj) → Prop) → Prop
  | [], _, k => k []
  | (s, o) :: r, i, k => @Bool.rec (fun _ => Prop) (dropO r i fun r' => k ((s, o) :: r')) (dropO r i k) (Nat.beq s i)
def memB : List Nat → Nat → Bool
  | [], _ => false
  | x :: r, n => bif Nat.beq x n then true else memB r n
def leftL : List (SV × SV × Nat) → List Nat → List (SV × SV × Nat)
  | [], _ => []
  | x :: r, s => bif memB s x.2.2 then leftL r s else x :: leftL r s
def allE : List (SV × SV × Nat) → (SV → SV → Nat → Prop) → Prop
  | [], _ => True
  | x :: r, p => p x.1 x.2.1 x.2.2 ∧ allE r p
def lastN : List Nat → Option Nat
  | [] => none
  | x :: r => match r with
    | [] => some x
    | y :: r' => lastN (y :: r')
def findE : List (SV × SV × Nat) → Nat → Option (SV × SV)
  | [], _ => none
  | x :: r, n => bif Nat.beq x.2.2 n then some (x.1, x.2.1) else findE r n
/-- Maps whose keys are texts or numbers: is it a key; are two the same; where a key stands. -/
def keyB (isStr : Bool) (k : SV) : Bool := match isStr, k with
  | true, .str _ => true
  | false, .int _ _ => true
  | _, _ => false
def keyEq (a b : SV) : Option Bool := match a, b with
  | .str s, .str t => some (s == t)
  | .int k n, .int k' m => (match kEq k k' with | true => some (n == m) | false => none)
  | _, _ => none
def findK (k : SV) : List (SV × SV × Nat) → Nat → (Option (Nat × SV) → Prop) → Prop
  | [], _, K => K none
  | (a, v, _) :: r, i, K => match keyEq k a with
    | some b => @Bool.rec (fun _ => Prop) (findK k r (i + 1) K) (K (some (i, v))) b
    | none => False
def setE : List (SV × SV × Nat) → Nat → SV → SV → List (SV × SV × Nat)
  | [], _, _, _ => []
  | (a, w, s) :: r, i, k, v => match i with
    | 0 => (k, v, s) :: r
    | i+1 => (a, w, s) :: setE r i k v
def tyIs (o : Option TypeId) (t : TypeId) : Bool := match o with
  | some u => Nat.beq u t
  | none => false

def aop (P : Program) (Γ : CallR) (o : AOp) (e : Env) (h : Heap) (k : SV → Heap → Prop) (kp : SV → Heap → Prop) : Prop :=
  match o with
  | .mov x => x.evK e fun v => k v h
  | .pick c a b => c.evK e fun c => match c with
    | .bool x => a.evK e fun va => b.evK e fun vb => @Bool.rec (fun _ => Prop) (k vb h) (k va h) x
    | _ => False
  | .box ty sz x => x.evK e fun v => v.cellsK fun vs => asr (Nat.beq vs.length sz) (match h with
    | ⟨n, l⟩ => k (.ref n 0 0 0) ⟨n + 1, (n, .vec 0 sz [v] ⟨false, some ty⟩) :: l⟩)
  | .boxR ty sz x => x.evK e fun v => match v, h with
    | .agg cs, ⟨n, l⟩ => asr (allOne cs && Nat.beq cs.length sz) (k (.ref n 0 0 0) ⟨n + 1, (n, .vec 0 1 cs ⟨false, some ty⟩) :: l⟩)
    | _, _ => False
  | .build zero parts => fillParts e parts zero fun cs => k (.agg cs) h
  | .buildSlice ty sz zero n parts => replK n zero fun z => fillElems sz e parts z fun cs => match h with
    | ⟨m, l⟩ => k (.sl m 0 sz 0 n (some n)) ⟨m + 1, (m, .vec 0 sz cs ⟨false, some ty⟩) :: l⟩
  | .loadS x => x.evK e fun x => readP h x fun cs sub => match getL cs sub with | some v => k v h | none => False
  | .loadA n x => x.evK e fun x => readP h x fun cs sub => dropN cs sub fun cs => takeN cs n fun l => k (.agg l) h
  | .store n x v => x.evK e fun x => v.evK e fun v => storeP n h x v fun h' => k (.tup []) h'
  | .bin op x y => x.evK e fun x => y.evK e fun y => match x, y with
    | .int kk a, .int k' b => arith op kk k' a b fun v => k v h
    | .str a, .str b => strOp op a b fun v => k v h
    | _, _ => False
  | .eqB neg x y => x.evK e fun x => y.evK e fun y => match x, y with
    | .bool a, .bool b => @Bool.rec (fun _ => Prop) (k (.bool (a == b)) h) (k (.bool (!(a == b))) h) neg
    | _, _ => False
  | .eqA neg ks x y => x.evK e fun x => y.evK e fun y => match x, y with
    | .agg a, .agg b => match eqCells ks a b with
      | some p => @Bool.rec (fun _ => Prop) (k (.bool p) h) (k (.bool (!p)) h) neg
      | none => False
    | _, _ => False
  | .un op x => x.evK e fun x => match op, x with
    | .not, .bool b => k (.bool (!b)) h
    | .neg, .int kk n => k (.int kk (kk.wrap (0 - n))) h
    | .xor, .int kk n => k (.int kk (bitsI .xor kk (if kk.signed then -1 else kk.max) n)) h
    | _, _ => False
  | .conv kk x => x.evK e fun x => match x with
    | .int _ n => k (.int kk (kk.wrap n)) h
    | _ => False
  | .strMov x => x.evK e fun x => match x with
    | .str s => k (.str s) h
    | _ => False
  | .toStr x => x.evK e fun x => match x with
    | .str _ => False
    | x => elemsK h 1 x fun xs => bytesK xs fun bs => k (.str bs) h
  | .toBytes ty x => x.evK e fun x => match x with
    | .str s => strK s fun xs => match h with
      | ⟨m, l⟩ => k (.sl m 0 1 0 s.length none) ⟨m + 1, (m, .vec 0 1 xs ⟨true, some ty⟩) :: l⟩
    | _ => False
  | .mkFunc fn a b => evsK e a fun a => evsK e b fun b => k (.func fn a b) h
  | .mkIface t x => x.evK e fun v => k (.iface t v) h
  | .slice sz x lo hi => x.evK e fun x => match x with
    | .lst sz' n get => asr (Nat.beq sz' sz) (oevK e 0 lo fun l => oevK e n hi fun hh =>
      asr (decide (0 ≤ l) && decide (l ≤ hh) && decide (hh ≤ n)) (k (.lst sz' (hh.toNat - l.toNat) fun i => get (l.toNat + i)) h))
    | .sl i g sz' off len cap => asr (Nat.beq sz' sz) (liveK h i g (oevK e 0 lo fun l => oevK e len hi fun hh =>
      asr (decide (0 ≤ l) && decide (l ≤ hh)) (match cap with
        | some c => asr (decide (hh ≤ c)) (k (.sl i g sz' (off + l.toNat) (hh.toNat - l.toNat) (some (c - l.toNat))) h)
        | none => asr (decide (hh ≤ len)) (k (.sl i g sz' (off + l.toNat) (hh.toNat - l.toNat) none) h))))
    | .nils => oevK e 0 lo fun l => oevK e 0 hi fun hh => asr (decide (l = 0) && decide (hh = 0)) (k .nils h)
    | _ => False
  | .sliceStr x lo hi => x.evK e fun x => match x with
    | .str s => oevK e 0 lo fun l => oevK e s.length hi fun hh =>
      asr (decide (0 ≤ l) && decide (l ≤ hh) && decide (hh ≤ s.length)) (k (.str ((s.drop l.toNat).take (hh.toNat - l.toNat))) h)
    | _ => False
  | .sliceArr n x lo hi => x.evK e fun x => match x, h with
    | .ref i g idx sub, ⟨m, hl⟩ => lookO hl i (fun o => match o with
      | .vec g' sz elems _ => asr (Nat.beq g' g && (Nat.beq sub 0 && (Nat.beq sz 1 && Nat.ble (idx + n) elems.length))) (oevK e 0 lo fun l => oevK e n hi fun hh =>
          asr (decide (0 ≤ l) && decide (l ≤ hh) && decide (hh ≤ n)) (k (.sl i g 1 (idx + l.toNat) (hh.toNat - l.toNat) (some (n - l.toNat))) ⟨m, hl⟩))
      | _ => False) False
    | _, _ => False
  | .fieldAddr off x => x.evK e fun x => match x with
    | .ref i g idx sub => liveK h i g (k (.ref i g idx (sub + off)) h)
    | .ipt v sub => k (.ipt v (sub + off)) h
    | _ => False
  | .fieldS off x => x.evK e fun x => match x with
    | .agg cs => match getL cs off with | some v => k v h | none => False
    | _ => False
  | .fieldA off n x => x.evK e fun x => match x with
    | .agg cs => dropN cs off fun cs => takeN cs n fun l => k (.agg l) h
    | _ => False
  | .indexAddr sz x i => x.evK e fun x => i.evK e fun i => match x, i with
    | .lst sz' n get, .int _ j => asr (Nat.beq sz' sz) (asr (decide (0 ≤ j) && decide (j < n)) (k (.ipt (get j.toNat) 0) h))
    | .sl i g sz' off len _, .int _ j => asr (Nat.beq sz' sz) (liveK h i g (asr (decide (0 ≤ j) && decide (j < len)) (k (.ref i g (off + j.toNat) 0) h)))
    | _, _ => False
  | .indexArr n sz x i => x.evK e fun x => i.evK e fun i => match x, i with
    | .ref i g idx sub, .int _ j => asr (decide (0 ≤ j) && decide (j < n)) (idxK h i g idx sub j.toNat sz fun v => k v h)
    | .glob g, .int _ j => asr (decide (0 ≤ j) && decide (j < n)) (match globSV g with
      | some v => k (.ipt v (0 + j.toNat * sz)) h
      | none => False)
    | .ipt v sub, .int _ j => asr (decide (0 ≤ j) && decide (j < n)) (k (.ipt v (sub + j.toNat * sz)) h)
    | _, _ => False
  | .index x i => x.evK e fun x => i.evK e fun i => match x, i with
    | .str s, .int _ j => asr (decide (0 ≤ j) && decide (j < s.length)) (k (.int .u8 (s.getD j.toNat 0).toNat) h)
    | _, _ => False
  | .extract x i => x.evK e fun x => match x with
    | .tup l => match getL l i with | some v => k v h | none => False
    | _ => False
  | .len isStr x => x.evK e fun x => match isStr, x with
    | true, .str s => k (.int .i64 s.length) h
    | false, .lst _ n _ => k (.int .i64 n) h
    | false, .sl i g _ _ n _ => liveF h i g (k (.int .i64 n) h)
    | false, .nils => k (.int .i64 0) h
    | _, _ => False
  | .mm isMax x y => x.evK e fun x => y.evK e fun y => match x, y with
    | .int kk a, .int _ b => @Bool.rec (fun _ => Prop) (k (.int kk (if b < a then b else a)) h) (k (.int kk (if a < b then b else a)) h) isMax
    | _, _ => False
  | .makeSlice ty sz bytes zero l c => l.evK e fun l => c.evK e fun c => match l, c with
    | .int _ n, .int _ c => asr (decide (0 ≤ n) && decide (n ≤ c) && decide (bytes * c ≤ 140737488355328) && decide (c ≤ 9223372036854775807)) (match h with
      | ⟨m, hl⟩ => k (.sl m 0 sz 0 n.toNat (some c.toNat)) ⟨m + 1, (m, .vec 0 sz (List.replicate c.toNat zero) ⟨false, some ty⟩) :: hl⟩)
    | _, _ => False
  | .append ty sz bytes s x => s.evK e fun s => x.evK e fun x => appendK ty sz bytes h s x k
  | .call f args => evsK e args fun a => Γ.call f a h fun r h' => match r with
    | .ret v => k v h'
    | .pan v => kp v h'
  | .callv f args => f.evK e fun f => match f with
    | .func (.func f) first cap => asr (callable P f) (evsK e args fun a => Γ.call f (first ++ (a ++ cap)) h fun r h' => match r with
      | .ret v => k v h'
      | .pan v => kp v h')
    | _ => False
  | .nilChk x => x.evK e fun x => match x with
    | .ref i g idx sub => liveK h i g (k (.ref i g idx sub) h)
    | .ipt v sub => k (.ipt v sub) h
    | .glob g => k (.glob g) h
    | _ => False
  | .toUns x => x.evK e fun x => match x, h with
    | .nilp, h => k .nilp h
    | .ref i g idx sub, ⟨m, hl⟩ => lookO hl i (fun o => match o with
      | .vec g' sz elems _ => asr (Nat.beq g' g && (Nat.blt idx elems.length && Nat.blt sub sz)) (k (.ref i g' idx sub) ⟨m, hl⟩)
      | _ => False) False
    | _, _ => False
  | .fromUns u usz x => x.evK e fun x => match x, h with
    | .nilp, h => k .nilp h
    | .ref i g idx sub, ⟨m, hl⟩ => lookO hl i (fun o => match o with
      | .vec g' sz elems sk => asr (Nat.beq g' g && (Nat.beq idx 0 && Nat.beq sub 0) && (Nat.beq sz usz && Nat.beq elems.length 1) && (!sk.slack && tyIs sk.ty u)) (k (.ref i g' 0 0) ⟨m, hl⟩)
      | _ => False) False
    | _, _ => False
  | .noEsc x => x.evK e fun v => k v h
  | .ext1 id x y => x.evK e fun x => y.evK e fun y => match x, y with
    | .str s, .int .u8 b => k (.int .i64 (ext1V id s b)) h
    | _, _ => False
  | .mkNoZero ty x => x.evK e fun x => match x, h with
    | .int .i64 n, ⟨m, l⟩ => asr (decide (0 ≤ n) && decide (n ≤ 140737488355328)) (k (.sl m 0 1 0 n.toNat none) ⟨m + 1, (m, .vec 0 1 [] ⟨true, some ty⟩) :: l⟩)
    | _, _ => False
  | .eqP neg x y => x.evK e fun x => y.evK e fun y => eqPK h x y fun b => @Bool.rec (fun _ => Prop) (k (.bool b) h) (k (.bool (!b)) h) neg
  | .sliceData x => x.evK e fun x => match x with
    | .nils => k .nilp h
    | .sl i g _ off len _ => asr (Nat.blt 0 len) (liveF h i g (k (.ref i g off 0) h))
    | _ => False
  | .unsStr et x n => x.evK e fun x => n.evK e fun n => match x, n, h with
    | .nilp, .int .i64 n, h => asr (decide (n = 0)) (k (.str []) h)
    | .ref i g idx sub, .int .i64 n, ⟨m, hl⟩ => lookO hl i (fun o => match o with
      | .vec g' sz elems sk => asr (Nat.beq g' g && (Nat.beq idx 0 && Nat.beq sub 0) && (Nat.beq sz 1 && tyIs sk.ty et) && (decide (0 < n) && decide (n ≤ 9223372036854775807)))
          (takeN elems n.toNat fun xs => bytesK xs fun bs => setO hl i (.fro g' et xs) fun hl' => k (.str bs) ⟨m, hl'⟩)
      | .fro g' ty elems => asr (Nat.beq g' g && (Nat.beq idx 0 && Nat.beq sub 0) && Nat.beq ty et && (decide (0 < n) && decide (n ≤ 9223372036854775807)))
          (takeN elems n.toNat fun xs => bytesK xs fun bs => setO hl i (.fro g' et elems) fun hl' => k (.str bs) ⟨m, hl'⟩)
      | _ => False) False
    | _, _, _ => False
  | .capOf x => x.evK e fun x => match x with
    | .nils => k (.int .i64 0) h
    | .sl i g _ _ _ (some c) => liveK h i g (k (.int .i64 c) h)
    | _ => False
  | .panic x => x.evK e fun x => match x with
    | .iface t v => kp (.iface t v) h
    | _ => False
  | .rangeS x => x.evK e fun x => match x, h with
    | .str s, ⟨n, l⟩ => k (.ref n 0 0 0) ⟨n + 1, (n, .iter s 0) :: l⟩
    | _, _ => False
  | .nextS x => x.evK e fun x => match x, h with
    | .ref i g idx sub, ⟨m, hl⟩ => asr (Nat.beq g 0 && (Nat.beq idx 0 && Nat.beq sub 0)) (lookO hl i (fun o => match o with
      | .iter s pos => @Bool.rec (fun _ => Prop) (k (.tup [.bool false]) ⟨m, hl⟩)
          (match Utf8.decode ⟨s.toArray⟩ pos with
            | (c, wd) => setO hl i (.iter s (pos + wd)) fun l' => k (.tup [.bool true, .int .i64 pos, .int .i32 c]) ⟨m, l'⟩) (Nat.blt pos s.length)
      | _ => False) False)
    | _, _ => False
  | .rangeM x => x.evK e fun x => match x, h with
    | .nilm, ⟨n, l⟩ => k (.ref n 0 0 0) ⟨n + 1, (n, .miter .nilm 0 [] 0) :: l⟩
    | .mapv i g, ⟨n, hl⟩ => lookO hl i (fun o => match o with
      | .map _ cl => asr (Nat.beq g 0) (k (.ref n 0 0 0) ⟨n + 1, (n, .miter (.mapv i g) cl [] cl) :: hl⟩)
      | _ => False) False
    | _, _ => False
  | .nextM x => x.evK e fun x => match x, h with
    | .ref j g _ sub, ⟨n, hl⟩ => asr (Nat.beq g 0 && Nat.beq sub 0) (lookO hl j (fun o => match o with
      | .miter m since seen stepped => (match m with
        | .mapv i g' => asr (Nat.beq g' 0) (lookO hl i (fun o => match o with
          | .map es cl => asr (Nat.ble since stepped && es.all fun x => Nat.blt x.2.2 since && (solidB 4 x.1 && solidB 4 x.2.1))
            (match leftL es seen with
              | [] => k (.tup [.bool false]) ⟨n, hl⟩
              | x :: r => allE (x :: r) fun kk v born => setO hl j (.miter (.mapv i g') since (seen ++ [born]) cl) fun l' => k (.tup [.bool true, kk, v]) ⟨n, l'⟩)
          | _ => False) False)
        | _ => False)
      | _ => False) False)
    | _, _ => False
  | .entry x => x.evK e fun x => match x, h with
    | .ref j g _ sub, ⟨n, hl⟩ => asr (Nat.beq g 0 && Nat.beq sub 0) (lookO hl j (fun o => match o with
      | .miter m _ seen stepped => (match m with
        | .mapv i g' => asr (Nat.beq g' 0) (lookO hl i (fun o => match o with
          | .map es cl => asr (Nat.beq cl stepped && es.all fun x => solidB 4 x.1 && solidB 4 x.2.1)
            (match lastN seen with
              | some s => (match findE es s with
                | some (kk, v) => k (.tup [kk, v]) ⟨n, hl⟩
                | none => False)
              | none => False)
          | _ => False) False)
        | _ => False)
      | _ => False) False)
    | _, _ => False
  | .mkMap => match h with
    | ⟨n, l⟩ => k (.mapv n 0) ⟨n + 1, (n, .map [] 0) :: l⟩
  | .mapSet isStr m kk v => m.evK e fun m => kk.evK e fun kk => v.evK e fun v => match m, h with
    | .mapv i g, ⟨n, hl⟩ => lookO hl i (fun o => match o with
      | .map es cl => asr (Nat.beq g 0 && (keyB isStr kk && solidB 4 v)) (findK kk es 0 fun r => match r with
        | some (j, _) => setO hl i (.map (setE es j kk v) cl) fun l' => k (.tup []) ⟨n, l'⟩
        | none => setO hl i (.map (es ++ [(kk, v, cl)]) (cl + 1)) fun l' => k (.tup []) ⟨n, l'⟩)
      | _ => False) False
    | _, _ => False
  | .mapGet isStr zero ok m kk => m.evK e fun m => kk.evK e fun kk => match m, h with
    | .nilm, h => asr (keyB isStr kk) (@Bool.rec (fun _ => Prop) (k zero h) (k (.tup [zero, .bool false]) h) ok)
    | .mapv i g, ⟨n, hl⟩ => lookO hl i (fun o => match o with
      | .map es _ => asr (Nat.beq g 0 && keyB isStr kk) (findK kk es 0 fun r => match r with
        | some (_, v) => @Bool.rec (fun _ => Prop) (k v ⟨n, hl⟩) (k (.tup [v, .bool true]) ⟨n, hl⟩) ok
        | none => @Bool.rec (fun _ => Prop) (k zero ⟨n, hl⟩) (k (.tup [zero, .bool false]) ⟨n, hl⟩) ok)
      | _ => False) False
    | _, _ => False
  | .lenM x => x.evK e fun x => match x, h with
    | .nilm, h => k (.int .i64 0) h
    | .mapv i g, ⟨n, hl⟩ => lookO hl i (fun o => match o with
      | .map es _ => asr (Nat.beq g 0) (k (.int .i64 es.length) ⟨n, hl⟩)
      | _ => False) False
    | _, _ => False
  | .tyAs t zero ok x => x.evK e fun x => match x with
    | .iface u v => @Bool.rec (fun _ => Prop) (@Bool.rec (fun _ => Prop) False (k (.tup [zero, .bool false]) h) ok) (@Bool.rec (fun _ => Prop) (k v h) (k (.tup [v, .bool true]) h) ok) (Nat.beq u t)
    | .nili => @Bool.rec (fun _ => Prop) False (k (.tup [zero, .bool false]) h) ok
    | _ => False
  | .eqI neg x y => x.evK e fun x => y.evK e fun y => match x, y with
    | .nili, .nili => @Bool.rec (fun _ => Prop) (k (.bool true) h) (k (.bool false) h) neg
    | .nili, .iface _ _ => @Bool.rec (fun _ => Prop) (k (.bool false) h) (k (.bool true) h) neg
    | .iface _ _, .nili => @Bool.rec (fun _ => Prop) (k (.bool false) h) (k (.bool true) h) neg
    | _, _ => False
  | .eqN neg x y => x.evK e fun x => y.evK e fun y => match x, y with
    | .nils, .nils => @Bool.rec (fun _ => Prop) (k (.bool true) h) (k (.bool false) h) neg
    | .nils, .sl i g _ _ _ _ => liveK h i g (@Bool.rec (fun _ => Prop) (k (.bool false) h) (k (.bool true) h) neg)
    | .sl i g _ _ _ _, .nils => liveK h i g (@Bool.rec (fun _ => Prop) (k (.bool false) h) (k (.bool true) h) neg)
    | .nils, .lst _ n _ => asr (Nat.blt 0 n) (@Bool.rec (fun _ => Prop) (k (.bool false) h) (k (.bool true) h) neg)
    | .lst _ n _, .nils => asr (Nat.blt 0 n) (@Bool.rec (fun _ => Prop) (k (.bool false) h) (k (.bool true) h) neg)
    | _, _ => False
  | .slice3 sz x lo hi mx => x.evK e fun x => match x with
    | .lst sz' n get => asr (Nat.beq sz' sz) (oevK e 0 lo fun l => oevK e n hi fun hh => oevK e 0 (some mx) fun mm =>
      asr (decide (0 ≤ l) && decide (l ≤ hh) && (decide (hh ≤ mm) && decide (mm ≤ n))) (k (.lst sz' (hh.toNat - l.toNat) fun i => get (l.toNat + i)) h))
    | .sl i g sz' off len cap => asr (Nat.beq sz' sz) (liveK h i g (oevK e 0 lo fun l => oevK e len hi fun hh => oevK e 0 (some mx) fun mm =>
      asr (decide (0 ≤ l) && decide (l ≤ hh) && (decide (hh ≤ mm) && decide (mm ≤ match cap with | some c => c | none => len)))
        (k (.sl i g sz' (off + l.toNat) (hh.toNat - l.toNat) (some (mm.toNat - l.toNat))) h)))
    | .nils => oevK e 0 lo fun l => oevK e 0 hi fun hh => oevK e 0 (some mx) fun mm => asr (decide (l = 0) && (decide (hh = 0) && decide (mm = 0))) (k .nils h)
    | _ => False
  | .copyZ x y => x.evK e fun x => y.evK e fun y => match x, y with
    | .nils, .nils => k (.int .i64 0) h
    | .sl i g _ _ _ _, .nils => liveK h i g (k (.int .i64 0) h)
    | _, _ => False
  | .clr sz zero x => x.evK e fun x => match x with
    | .nils => k (.tup []) h
    | .sl i g sz' off len _ => asr (Nat.beq sz' sz) (match h with
      | ⟨m, hl⟩ => lookO hl i (fun o => match o with
        | .vec g' szo elems sk => asr (Nat.beq g' g) (replK len zero fun zs => asr (allOnes zs) (setRun elems off zs fun elems' => setO hl i (.vec g' szo elems' sk) fun l' => k (.tup []) ⟨m, l'⟩))
        | _ => False) False)
    | _ => False
  | .dfr _ _ => False
  | .rcv => False
  | .bad => False

def putD (e : Env) (d : Option Nat) (v : SV) (k : Env → Prop) : Prop := match d with
  | some t => Env.putK e t v k
  | none => k e

/-- Does the operation run? (What its guard's slot holds is written out behind.) -/
def guardK (e : Env) (g : Option (Nat × Bool)) (run : Env → Prop) (skip : Env → Prop) : Prop := match g with
  | none => run e
  | some (t, want) => Env.getK e t fun g => match g with
    | .bool x => @Bool.rec (fun _ => Prop)
        (Env.putK e t (.bool false) fun e => @Bool.rec (fun _ => Prop) (run e) (skip e) want)
        (Env.putK e t (.bool true) fun e => @Bool.rec (fun _ => Prop) (skip e) (run e) want) x
    | .tup _ => skip e
    | _ => False

def aops (P : Program) (Γ : CallR) (l : List AOper) : Env → Heap → (Env → Heap → Prop) → (SV → Env → Heap → Prop) → Prop :=
  @List.rec AOper (fun _ => Env → Heap → (Env → Heap → Prop) → (SV → Env → Heap → Prop) → Prop) (fun e h k _ => k e h)
    (fun o _ ih e h k kp => guardK e o.guard
      (fun e => aop P Γ o.op e h (fun v h' => putD e o.dst v fun e' => ih e' h' k kp) (fun v h' => kp v e h'))
      (fun e => putD e o.dst (.tup []) fun e' => ih e' h k kp)) l
theorem aops_nil (P : Program) (Γ : CallR) (e : Env) (h : Heap) (k : Env → Heap → Prop) (kp : SV → Env → Heap → Prop) : aops P Γ [] e h k kp = k e h := rfl
theorem aops_cons (P : Program) (Γ : CallR) (o : AOper) (r : List AOper) (e : Env) (h : Heap) (k : Env → Heap → Prop) (kp : SV → Env → Heap → Prop) : aops P Γ (o :: r) e h k kp = guardK e o.guard
      (fun e => aop P Γ o.op e h (fun v h' => putD e o.dst v fun e' => aops P Γ r e' h' k kp) (fun v h' => kp v e h'))
      (fun e => putD e o.dst (.tup []) fun e' => aops P Γ r e' h k kp) := rfl
def svEqL (eq : SV → SV → Bool) : List SV → List SV → Bool
  | [], [] => true
  | a :: r, b :: s => eq a b && svEqL eq r s
  | _, _ => false
def svEq : Nat → SV → SV → Bool
  | 0, _, _ => false
  | n+1, a, b => match a, b with
    | .bool a, .bool b => a == b
    | .int k a, .int k' b => kEq k k' && decide (a = b)
    | .str s, .str t => decide (s = t)
    | .nilp, .nilp => true
    | .ref i g x y, .ref i' g' x' y' => Nat.beq i i' && (Nat.beq g g' && (Nat.beq x x' && Nat.beq y y'))
    | .glob g, .glob g' => Nat.beq g g'
    | .nils, .nils => true
    | .sl i g a b c none, .sl i' g' a' b' c' none => Nat.beq i i' && (Nat.beq g g' && (Nat.beq a a' && (Nat.beq b b' && Nat.beq c c')))
    | .sl i g a b c (some d), .sl i' g' a' b' c' (some d') => Nat.beq i i' && (Nat.beq g g' && (Nat.beq a a' && (Nat.beq b b' && (Nat.beq c c' && Nat.beq d d'))))
    | .nilf, .nilf => true
    | .nili, .nili => true
    | .nilm, .nilm => true
    | .mapv i g, .mapv i' g' => Nat.beq i i' && Nat.beq g g'
    | .iface t v, .iface t' v' => Nat.beq t t' && svEq n v v'
    | .agg l, .agg l' => svEqL (svEq n) l l'
    | .tup l, .tup l' => svEqL (svEq n) l l'
    | _, _ => false
def allJ (p : Nat → Bool) : Nat → Bool
  | 0 => true
  | n+1 => p n && allJ p n
def listB (p : SV → SV → Bool) : List SV → List SV → Bool
  | [], [] => true
  | a :: r, b :: s => p a b && listB p r s
  | _, _ => false
/-- The same but for how rows are read? -/
def lkB : Nat → SV → SV → Bool
  | 0, _, _ => false
  | n+1, a, b => match a, b with
    | .lst sz m g, .lst sz' m' g' => Nat.beq sz sz' && (Nat.beq m m' && allJ (fun j => lkB n (g j) (g' j)) m)
    | .agg l, .agg l' => listB (lkB n) l l'
    | .tup l, .tup l' => listB (lkB n) l l'
    | .iface t v, .iface t' v' => Nat.beq t t' && lkB n v v'
    | .undef, .undef => true
    | .ipt v s, .ipt v' s' => Nat.beq s s' && lkB n v v'
    | .func (.func f) x y, .func (.func f') x' y' => Nat.beq f f' && (svEqL (svEq n) x x' && svEqL (svEq n) y y')
    | a, b => svEq (n + 1) a b
def envB (e' : Env) : Env → Bool
  | [] => true
  | (t, v) :: r => lkB 8 v (Env.get e' t) && envB e' r
def natsB : List Nat → List Nat → Bool
  | [], [] => true
  | a :: r, b :: s => Nat.beq a b && natsB r s
  | _, _ => false
def entB : List (SV × SV × Nat) → List (SV × SV × Nat) → Bool
  | [], [] => true
  | a :: r, b :: s => svEq 8 a.1 b.1 && (svEq 8 a.2.1 b.2.1 && (Nat.beq a.2.2 b.2.2 && entB r s))
  | _, _ => false
def lkObj : AObj → AObj → Bool
  | .vec g sz es sk, .vec g' sz' es' sk' => Nat.beq g g' && (Nat.beq sz sz' && (listB (lkB 8) es es' && (sk.slack == sk'.slack && (match sk.ty, sk'.ty with
    | none, none => true
    | some t, some t' => Nat.beq t t'
    | _, _ => false))))
  | .iter s p, .iter s' p' => decide (s = s') && Nat.beq p p'
  | .map es c, .map es' c' => Nat.beq c c' && entB es es'
  | .miter m a b c, .miter m' a' b' c' => svEq 8 m m' && (Nat.beq a a' && (natsB b b' && Nat.beq c c'))
  | .fro g t xs, .fro g' t' xs' => Nat.beq g g' && (Nat.beq t t' && svEqL (svEq 8) xs xs')
  | _, _ => false
def subLk : List (Nat × AObj) → List (Nat × AObj) → Bool
  | [], _ => true
  | (i, o) :: r, l => lookO l i (fun o' => lkObj o o') false && subLk r l
/-- Memory, name by name. -/
def eqH : List (Nat × AObj) → List (Nat × AObj) → Bool
  | [], [] => true
  | (i, o) :: r, (j, p) :: s => Nat.beq i j && (lkObj o p && eqH r s)
  | _, _ => false
/-- A slice written out of what stands in slots: it may be made ahead of its turn. -/
def isB (o : AOper) : Bool := match o.op with
  | .buildSlice _ _ _ _ _ => (match o.guard with
    | none => (match o.dst with | some _ => true | none => false)
    | some _ => false)
  | _ => false
/-- Could those that may come ahead be made now? -/
def looksK (P : Program) (Γ : CallR) (ops : List AOper) (l : List Nat) : Env → Heap → Prop → Prop :=
  @List.rec Nat (fun _ => Env → Heap → Prop → Prop) (fun _ _ p => p)
    (fun j _ ih e h p => match getL ops j with
      | none => False
      | some o => @Bool.rec (fun _ => Prop) (ih e h p) (aop P Γ o.op e h (fun _ _ => ih e h p) (fun _ _ => False)) (isB o)) l
theorem looksK_nil (P : Program) (Γ : CallR) (ops : List AOper) (e : Env) (h : Heap) (p : Prop) : looksK P Γ ops [] e h p = p := rfl
theorem looksK_cons (P : Program) (Γ : CallR) (ops : List AOper) (j : Nat) (r : List Nat) (e : Env) (h : Heap) (p : Prop) : looksK P Γ ops (j :: r) e h p = match getL ops j with
      | none => False
      | some o => @Bool.rec (fun _ => Prop) (looksK P Γ ops r e h p) (aop P Γ o.op e h (fun _ _ => looksK P Γ ops r e h p) (fun _ _ => False)) (isB o) := rfl
/-- Are the reads done so far still the same? -/
def againK (P : Program) (Γ : CallR) (ops : List AOper) (l : List Nat) : Env → Heap → Prop → Prop :=
  @List.rec Nat (fun _ => Env → Heap → Prop → Prop) (fun _ _ p => p)
    (fun j _ ih e h p => match getL ops j with
      | none => False
      | some o => @Bool.rec (fun _ => Prop) (guardK e o.guard
        (fun e => aop P Γ o.op e h (fun v _ => match o.dst with | some t => Env.getK e t fun v' => Γ.same v v' (ih e h p) | none => ih e h p) (fun _ _ => False))
        (fun e => ih e h p)) (ih e h p) (isB o)) l
theorem againK_nil (P : Program) (Γ : CallR) (ops : List AOper) (e : Env) (h : Heap) (p : Prop) : againK P Γ ops [] e h p = p := rfl
theorem againK_cons (P : Program) (Γ : CallR) (ops : List AOper) (j : Nat) (r : List Nat) (e : Env) (h : Heap) (p : Prop) : againK P Γ ops (j :: r) e h p = match getL ops j with
      | none => False
      | some o => @Bool.rec (fun _ => Prop) (guardK e o.guard
        (fun e => aop P Γ o.op e h (fun v _ => match o.dst with | some t => Env.getK e t fun v' => Γ.same v v' (againK P Γ ops r e h p) | none => againK P Γ ops r e h p) (fun _ _ => False))
        (fun e => againK P Γ ops r e h p)) (againK P Γ ops r e h p) (isB o) := rfl

/-- One operation, from here on. -/
def oneK (P : Program) (Γ : CallR) (o : AOper) (e : Env) (h : Heap) (K : Env → Heap → Prop) : Prop :=
  guardK e o.guard (fun e => aop P Γ o.op e h (fun v h' => putD e o.dst v fun e' => K e' h') (fun _ _ => False)) (fun e => putD e o.dst (.tup []) fun e' => K e' h)
def seqT (P : Program) (Γ : CallR) (ops : List AOper) : List Nat → Env → Heap → (Env → Heap → Prop) → Prop
  | [], e, h, K => K e h
  | i :: r, e, h, K => match getL ops i with
    | none => False
    | some o => oneK P Γ o e h fun e' h' => seqT P Γ ops r e' h' K
def remN : List Nat → Nat → List Nat
  | [], _ => []
  | j :: r, i => bif Nat.beq j i then remN r i else j :: remN r i
def freeOf : List Nat → List Nat → Bool
  | [], _ => true
  | k :: r, rem => (bif memB rem k then false else true) && freeOf r rem
def eachC : List Nat → (Nat → Prop → Prop) → Prop → Prop
  | [], _, p => p
  | i :: r, f, p => f i (eachC r f p)
/-- What is left, in every order that may be: each ends as 'chk' asks. -/
def allC (P : Program) (Γ : CallR) (ops : List AOper) (chk : Env → Heap → Bool) : Nat → List Nat → Env → Heap → Prop → Prop
  | 0, rem, e, h, p => match rem with
    | [] => asr (chk e h) p
    | _ :: _ => False
  | n+1, rem, e, h, p => match rem with
    | [] => asr (chk e h) p
    | x :: r => eachC (x :: r) (fun i q => match getL ops i with
      | none => False
      | some o => @Bool.rec (fun _ => Prop) q (oneK P Γ o e h fun e' h' => allC P Γ ops chk n (remN (x :: r) i) e' h' q) (freeOf o.pre (x :: r))) p
theorem allC_succ (P : Program) (Γ : CallR) (ops : List AOper) (chk : Env → Heap → Bool) (n x : Nat) (r : List Nat) (e : Env) (h : Heap) (p : Prop) : allC P Γ ops chk (n + 1) (x :: r) e h p = eachC (x :: r) (fun i q => match getL ops i with
      | none => False
      | some o => @Bool.rec (fun _ => Prop) q (oneK P Γ o e h fun e' h' => allC P Γ ops chk n (remN (x :: r) i) e' h' q) (freeOf o.pre (x :: r))) p := rfl
def stB (e1 : Env) (h1 : Heap) (e2 : Env) (h2 : Heap) : Bool := envB e2 e1 && (Nat.beq h2.nxt h1.nxt && eqH h1.l h2.l)
/-- The last operations of a region, whose order does not matter: gone through in one order; all others end the same. -/
def tailK (P : Program) (Γ : CallR) (ops : List AOper) (T : List Nat) (e : Env) (h : Heap) (k : Env → Heap → Prop) : Prop :=
  seqT P Γ ops T e h fun e1 h1 => allC P Γ ops (stB e1 h1) T.length T e h (k e1 h1)

/-- A region that draws its order, in one order; behind each operation that acts, the reads that may come later are done again. -/
def aopsD (P : Program) (Γ : CallR) (ops : List AOper) (l : List (Nat × Bool × List Nat)) : Env → Heap → (Env → Heap → Prop) → (SV → Env → Heap → Prop) → Prop :=
  @List.rec (Nat × Bool × List Nat) (fun _ => Env → Heap → (Env → Heap → Prop) → (SV → Env → Heap → Prop) → Prop) (fun e h k _ => k e h)
    (fun x r ih e h k kp => match x with
      | (i, _, again) => @Bool.rec (fun _ => Prop) (match getL ops i with
        | none => False
        | some o => looksK P Γ ops again e h (guardK e o.guard
          (fun e => aop P Γ o.op e h (fun v h' => putD e o.dst v fun e' => againK P Γ ops again e' h' (ih e' h' k kp)) (fun v h' => kp v [] h'))
          (fun e => putD e o.dst (.tup []) fun e' => ih e' h k kp))) (tailK P Γ ops (i :: r.map fun y => y.1) e h k) (memB again i)) l
theorem aopsD_nil (P : Program) (Γ : CallR) (ops : List AOper) (e : Env) (h : Heap) (k : Env → Heap → Prop) (kp : SV → Env → Heap → Prop) : aopsD P Γ ops [] e h k kp = k e h := rfl
theorem aopsD_mark (P : Program) (Γ : CallR) (ops : List AOper) (i : Nat) (b : Bool) (again : List Nat) (r : List (Nat × Bool × List Nat)) (e : Env) (h : Heap) (k : Env → Heap → Prop) (kp : SV → Env → Heap → Prop) (hm : memB again i = true) :
    aopsD P Γ ops ((i, b, again) :: r) e h k kp = tailK P Γ ops (i :: r.map fun y => y.1) e h k := by
  show @Bool.rec (fun _ => Prop) _ (tailK P Γ ops (i :: r.map fun y => y.1) e h k) (memB again i) = _
  rw [hm]
theorem aopsD_cons (P : Program) (Γ : CallR) (ops : List AOper) (i : Nat) (b : Bool) (again : List Nat) (r : List (Nat × Bool × List Nat)) (e : Env) (h : Heap) (k : Env → Heap → Prop) (kp : SV → Env → Heap → Prop) (hm : memB again i = false) :
    aopsD P Γ ops ((i, b, again) :: r) e h k kp = match getL ops i with
        | none => False
        | some o => looksK P Γ ops again e h (guardK e o.guard
          (fun e => aop P Γ o.op e h (fun v h' => putD e o.dst v fun e' => againK P Γ ops again e' h' (aopsD P Γ ops r e' h' k kp)) (fun v h' => kp v [] h'))
          (fun e => putD e o.dst (.tup []) fun e' => aopsD P Γ ops r e' h k kp)) := by
  show @Bool.rec (fun _ => Prop) (match getL ops i with
        | none => False
        | some o => looksK P Γ ops again e h (guardK e o.guard
          (fun e => aop P Γ o.op e h (fun v h' => putD e o.dst v fun e' => againK P Γ ops again e' h' (aopsD P Γ ops r e' h' k kp)) (fun v h' => kp v [] h'))
          (fun e => putD e o.dst (.tup []) fun e' => aopsD P Γ ops r e' h k kp))) _ (memB again i) = _
  rw [hm]

/-! ## Code, its types looked up -/
def ofVal : Nat → Value → SV
  | 0, _ => .undef
  | n+1, v => match v with
    | .bool b => .bool b
    | .int k m => .int k m
    | .string s => .str s.data.toList
    | .pointer none => .nilp
    | .slice none 0 0 => .nils
    | .nilFunc => .nilf
    | .nilIface => .nili
    | .map none => .nilm
    | .iface t v => .iface t (ofVal n v)
    | .agg cs => .agg (cs.toList.map (ofVal n))
    | .tuple cs => .tup (cs.toList.map (ofVal n))
    | _ => .undef

def cOpd : Operand → AOpd
  | .tmp t => .tmp t
  | .const v => .const (ofVal 4 v)
  | .global g => .const (.glob g)
  | .func f => .const (.func (.func f) [] [])

def isAggT (P : Program) (t : TypeId) : Option Bool := match P.underlying t with
  | some (.struct _) | some (.array _ _) => some true
  | some _ => some false
  | none => none

/-- A struct of plain numbers, bools and texts, one behind the other: compared part by part. -/
def eqKinds (P : Program) : Nat → List Field → Option (List EqK)
  | _, [] => some []
  | n, f :: r => bif f.name != "_" && Nat.beq f.offset n then (match P.underlying f.type with
    | some (.int _) => (eqKinds P (n + 1) r).map (.int :: ·)
    | some .string => (eqKinds P (n + 1) r).map (.str :: ·)
    | some .bool => (eqKinds P (n + 1) r).map (.bool :: ·)
    | _ => none) else none

/-- The same, with structs of that kind among its parts. -/
def eqKinds2 (P : Program) : Nat → List Field → Option (List EqK)
  | _, [] => some []
  | n, f :: r => bif f.name != "_" && Nat.beq f.offset n then (match P.underlying f.type with
    | some (.int _) => (eqKinds2 P (n + 1) r).map (.int :: ·)
    | some .string => (eqKinds2 P (n + 1) r).map (.str :: ·)
    | some .bool => (eqKinds2 P (n + 1) r).map (.bool :: ·)
    | some (.struct gs) => bif P.stoodInHeld f.type then none else (match eqKinds P 0 gs.toList, P.info? f.type with
      | some ks, some i => bif Nat.beq i.size ks.length then (eqKinds2 P (n + ks.length) r).map (ks ++ ·) else none
      | _, _ => none)
    | _ => none) else none

def sliceOrStr : Option TypeDesc → Bool
  | some (.slice _) | some .string => true
  | _ => false

def isConst : Operand → Bool
  | .const _ => true
  | _ => false
/-- A map's key that is a text or a number; a type that is no interface. -/
def keyT (P : Program) (t : TypeId) : Option Bool := match P.underlying t with
  | some .string => some true
  | some (.int _) => some false
  | _ => none
/-- An array of single cells: laid as a row. -/
def rowT (P : Program) (t : TypeId) : Bool := match P.underlying t with
  | some (.array _ e) => (match P.info? e with | some i => Nat.beq i.size 1 | none => false)
  | _ => false
def cOp (P : Program) (o : Op) : AOp := match o with
  | .move x | .assign x => .mov (cOpd x)
  | .pick c a b => .pick (cOpd c) (cOpd a) (cOpd b)
  | .alloc t => match P.info? t with
    | some i => match i.zero with | some z => bif rowT P t then .boxR t i.size (.const (ofVal 4 z)) else .box t i.size (.const (ofVal 4 z)) | none => .bad
    | none => .bad
  | .box t x => match P.info? t with | some i => bif rowT P t then .boxR t i.size (cOpd x) else .box t i.size (cOpd x) | none => .bad
  | .build t ps => match P.underlying t, P.info? t with
    | some (.struct fs), some i => match i.zero with
      | some z => bif !((ofVal 4 z).known && fs.toList.all fun f => (P.info? f.type).isSome) then .bad else match ps.toList.mapM fun (j, x) => (fs[j]?).bind fun f => (P.info? f.type).map fun g => (f.offset, g.size, cOpd x) with
        | some l => .build (ofVal 4 z).cells l
        | none => .bad
      | none => .bad
    | _, _ => .bad
  | .buildSlice t n ps => match P.underlying t with
    | some (.slice e) => match P.info? e with
      | some i => match i.zero with
        | some z => bif Nat.ble (n * i.size) 16777216 && (Nat.beq (ofVal 4 z).cells.length i.size && (ofVal 4 z).known) then .buildSlice e i.size (ofVal 4 z) n (ps.toList.map fun (j, x) => (j, cOpd x)) else .bad
        | none => .bad
      | none => .bad
    | _ => .bad
  | .load t x => match isAggT P t, P.info? t with
    | some true, some i => .loadA i.size (cOpd x)
    | some false, _ => .loadS (cOpd x)
    | _, _ => .bad
  | .store t x v => match P.info? t with | some i => .store i.size (cOpd x) (cOpd v) | none => .bad
  | .binOp op t x y _ => match P.underlying t with
    | some (.int _) | some .string => .bin op (cOpd x) (cOpd y)
    | some .bool => match op with
      | .eql => .eqB false (cOpd x) (cOpd y)
      | .neq => .eqB true (cOpd x) (cOpd y)
      | _ => .bad
    | some (.pointer e) => (match P.info? e, op with
      | some i, .eql => bif Nat.beq i.size 0 then .bad else .eqP false (cOpd x) (cOpd y)
      | some i, .neq => bif Nat.beq i.size 0 then .bad else .eqP true (cOpd x) (cOpd y)
      | _, _ => .bad)
    | some (.slice _) => (match op with
      | .eql => .eqN false (cOpd x) (cOpd y)
      | .neq => .eqN true (cOpd x) (cOpd y)
      | _ => .bad)
    | some (.interface _) => bif isConst x || isConst y then (match op with
      | .eql => .eqI false (cOpd x) (cOpd y)
      | .neq => .eqI true (cOpd x) (cOpd y)
      | _ => .bad) else .bad
    | some (.struct fs) => bif !P.stoodInHeld t && !P.eqGuardType P.depth t then (match eqKinds2 P 0 fs.toList, op with
      | some ks, .eql => .eqA false ks (cOpd x) (cOpd y)
      | some ks, .neq => .eqA true ks (cOpd x) (cOpd y)
      | _, _ => .bad) else .bad
    | _ => .bad
  | .unOp u _ x => .un u (cOpd x)
  | .convert s d x => match P.underlying s, P.underlying d with
    | some (.int _), some (.int k) => .conv k (cOpd x)
    | some .string, some .string => .strMov (cOpd x)
    | some (.slice e), some .string => (match P.underlying e, P.info? e with
      | some (.int .u8), some i => bif Nat.beq i.size 1 then .toStr (cOpd x) else .bad
      | _, _ => .bad)
    | some (.pointer u), some .unsafePointer => (match P.info? u with
      | some i => bif Nat.beq i.size 0 then .bad else .toUns (cOpd x)
      | none => .bad)
    | some .unsafePointer, some (.pointer u) => (match P.info? u with
      | some i => bif !Nat.beq i.size 0 && (Nat.beq (P.cellsOf u) i.size && liesAt P P.depth u 1 0 u 1) then .fromUns u i.size (cOpd x) else .bad
      | none => .bad)
    | some .string, some (.slice e) => (match P.underlying e, P.info? e with
      | some (.int .u8), some i => bif Nat.beq i.size 1 then .toBytes e (cOpd x) else .bad
      | _, _ => .bad)
    | _, _ => .bad
  | .makeFunc fn a b => .mkFunc fn (a.toList.map cOpd) (b.toList.map cOpd)
  | .makeInterface t x => match P.underlying t with
    | some (.interface _) => .bad
    | some _ => .mkIface t (cOpd x)
    | none => .bad
  | .slice t x lo hi none => match P.underlying t with
    | some (.slice e) => match P.info? e with | some i => .slice i.size (cOpd x) (lo.map cOpd) (hi.map cOpd) | none => .bad
    | some .string => .sliceStr (cOpd x) (lo.map cOpd) (hi.map cOpd)
    | some (.array n e) => (match P.info? e with | some i => bif Nat.beq i.size 1 then .sliceArr n (cOpd x) (lo.map cOpd) (hi.map cOpd) else .bad | none => .bad)
    | _ => .bad
  | .slice t x lo (some hi) (some m) => match P.underlying t with
    | some (.slice e) => match P.info? e with | some i => .slice3 i.size (cOpd x) (lo.map cOpd) (some (cOpd hi)) (cOpd m) | none => .bad
    | _ => .bad
  | .range t x => match P.underlying t with
    | some .string => .rangeS (cOpd x)
    | some (.map _ _) => .rangeM (cOpd x)
    | _ => .bad
  | .next x true => .nextS (cOpd x)
  | .next x false => .nextM (cOpd x)
  | .entry x => .entry (cOpd x)
  | .makeMap _ none => .mkMap
  | .mapUpdate t m k v | .insert t m k v => match P.underlying t with
    | some (.map kt _) => (match keyT P kt with | some b => .mapSet b (cOpd m) (cOpd k) (cOpd v) | none => .bad)
    | _ => .bad
  | .lookup t m k ok => match P.underlying t with
    | some (.map kt e) => (match P.info? e with
      | some i => match i.zero with
        | some z => (match keyT P kt with | some b => bif solidB 4 (ofVal 4 z) then .mapGet b (ofVal 4 z) ok (cOpd m) (cOpd k) else .bad | none => .bad)
        | none => .bad
      | none => .bad)
    | _ => .bad
  | .typeAssert x _ t ok => match P.underlying t, P.info? t with
    | some (.interface _), _ => .bad
    | some _, some i => (match i.zero with
      | some z => bif solidB 4 (ofVal 4 z) then .tyAs t (ofVal 4 z) ok (cOpd x) else .bad
      | none => .bad)
    | _, _ => .bad
  | .defer c => match c.callee with
    | .value f => .dfr (cOpd f) (c.args.toList.map cOpd)
    | _ => .bad
  | .fieldAddr t x f => match P.underlying t with
    | some (.struct fs) => match fs[f]? with
      | some fd => match P.info? fd.type with
        | some i => bif Nat.beq i.size 0 then .bad else .fieldAddr fd.offset (cOpd x)
        | none => .bad
      | none => .bad
    | _ => .bad
  | .field t x f => match P.underlying t with
    | some (.struct fs) => match fs[f]? with
      | some fd => match isAggT P fd.type, P.info? fd.type with
        | some true, some i => .fieldA fd.offset i.size (cOpd x)
        | some false, _ => .fieldS fd.offset (cOpd x)
        | _, _ => .bad
      | none => .bad
    | _ => .bad
  | .indexAddr t x i => match P.underlying t with
    | some (.slice e) => match P.info? e with | some ti => .indexAddr ti.size (cOpd x) (cOpd i) | none => .bad
    | some (.array n e) => match P.info? e with | some ti => .indexArr n ti.size (cOpd x) (cOpd i) | none => .bad
    | _ => .bad
  | .index t x i => match P.underlying t with
    | some .string => .index (cOpd x) (cOpd i)
    | _ => .bad
  | .extract x i => .extract (cOpd x) i
  | .makeSlice t l c => match P.underlying t with
    | some (.slice e) => match P.info? e with
      | some i => match i.zero with
        | some z => bif Nat.beq (ofVal 4 z).cells.length i.size && (ofVal 4 z).known then .makeSlice e i.size i.bytes (ofVal 4 z) (cOpd l) (cOpd c) else .bad
        | none => .bad
      | none => .bad
    | _ => .bad
  | .call c => match c.callee with
    | .value (.func f) => bif callable P f then .call f (c.args.toList.map cOpd) else (match P.funcs[f]?, c.args.toList with
      | some fn, [x] => bif fn.body.isNone && (fn.name == "internal/abi.NoEscape" && fn.origin == "") then .noEsc (cOpd x)
        else bif fn.body.isNone && (fn.name == "internal/bytealg.MakeNoZero" && fn.origin == "") then (match fn.resultTypes.toList with
          | [t] => match P.underlying t with
            | some (.slice el) => .mkNoZero el (cOpd x)
            | _ => .bad
          | _ => .bad) else .bad
      | some fn, [x, y] => bif fn.body.isNone && fn.origin == "" then (match ext1Id fn.name with | some i => .ext1 i (cOpd x) (cOpd y) | none => .bad) else .bad
      | _, _ => .bad)
    | .value v => .callv (cOpd v) (c.args.toList.map cOpd)
    | .builtin .len => match c.args.toList, c.argTypes.toList with
      | [x], [t] => match P.underlying t with
        | some .string => .len true (cOpd x)
        | some (.slice _) => .len false (cOpd x)
        | some (.map _ _) => .lenM (cOpd x)
        | _ => .bad
      | _, _ => .bad
    | .builtin .cap => match c.args.toList, c.argTypes.toList with
      | [x], [t] => match P.underlying t with
        | some (.slice _) => .capOf (cOpd x)
        | _ => .bad
      | _, _ => .bad
    | .builtin .copy => match c.args.toList, c.argTypes.toList with
      | [x, y], [t, u] => match P.underlying t with
        | some (.slice e) => match P.info? e with
          | some _ => .copyZ (cOpd x) (cOpd y)
          | none => .bad
        | _ => .bad
      | _, _ => .bad
    | .builtin .clear => match c.args.toList, c.argTypes.toList with
      | [x], [t] => match P.underlying t with
        | some (.slice e) => match P.info? e with
          | some i => match i.zero with
            | some z => bif Nat.beq (ofVal 4 z).cells.length i.size && (ofVal 4 z).known then .clr i.size (ofVal 4 z) (cOpd x) else .bad
            | none => .bad
          | none => .bad
        | _ => .bad
      | _, _ => .bad
    | .builtin .recover => .rcv
    | .builtin .unsafeSliceData => match c.args.toList with | [x] => .sliceData (cOpd x) | _ => .bad
    | .builtin .unsafeString => match c.args.toList, c.argTypes.toList with
      | [x, n], [t, _] => match P.underlying t with
        | some (.pointer e) => bif Nat.beq (P.cellsOf e) 1 then .unsStr e (cOpd x) (cOpd n) else .bad
        | _ => .bad
      | _, _ => .bad
    | .builtin .min => match c.args.toList with | [x, y] => .mm false (cOpd x) (cOpd y) | _ => .bad
    | .builtin .max => match c.args.toList with | [x, y] => .mm true (cOpd x) (cOpd y) | _ => .bad
    | .builtin .panic => match c.args.toList with | [x] => .panic (cOpd x) | _ => .bad
    | .builtin .append => match c.args.toList, c.argTypes.toList with
      | [s, x], [t, u] => match P.underlying t with
        | some (.slice e) => bif sliceOrStr (P.underlying u) then (match P.info? e with
          | some i => match i.zero with
            | some z => bif Nat.beq (ofVal 4 z).cells.length i.size && (ofVal 4 z).known then .append e i.size i.bytes (cOpd s) (cOpd x) else .bad
            | none => .bad
          | none => .bad) else .bad
        | _ => .bad
      | _, _ => .bad
    | _ => .bad
  | .nilCheck x => .nilChk (cOpd x)
  | .panic x => .panic (cOpd x)
  | _ => .bad

def bindsAny (e : Edge) : Bool := match e.ground with
  | .textOnly _ => false
  | .gcOnly _ => false
  | _ => true

def dstOk (n : Nat) (o : Oper) : Bool := match o.dst with
  | some d => Nat.blt d n
  | none => true
/-- An operation; its guard by the slot that is asked. -/
def cOper (P : Program) (n : Nat) (ops : Array Oper) (pre : Bool) (o : Oper) : AOper :=
  let pr := bif pre then o.after.toList.filterMap fun e => bif bindsAny e then some e.on else none else []
  bif dstOk n o then (match o.guard with
  | none => ⟨o.dst, cOp P o.op, none, pr⟩
  | some (j, want) => match (ops[j]?).bind (·.dst) with
    | some t => bif Nat.blt t n then ⟨o.dst, cOp P o.op, some (t, want), pr⟩ else ⟨none, .bad, none, []⟩
    | none => ⟨none, .bad, none, []⟩) else ⟨none, .bad, none, []⟩

def cCode (P : Program) (n : Nat) : Code → ACode
  | .skip => .skip
  | .region _ ops d => bif d then .dregion (ops.toList.map (cOper P n ops true)) [] [] else .region (ops.toList.map (cOper P n ops false)) []
  | .seq a b => .seq (cCode P n a) (cCode P n b)
  | .cond c a b => .cond (cOpd c) (cCode P n a) (cCode P n b)
  | .block id b => .block id (cCode P n b)
  | .loop b => .loop (cCode P n b)
  | .exit id => .exit id
  | .ret => .ret
  | _ => .bad
end
end Ab
namespace Ab
set_option linter.unusedVariables false
set_option linter.unusedSimpArgs false
open Go

theorem beq_cases (s t : Nat) : (Nat.beq s t = true ∧ s = t) ∨ (Nat.beq s t = false ∧ s ≠ t) := by
  cases h : Nat.beq s t
  · exact .inr ⟨rfl, fun e => by subst e; simp at h⟩
  · exact .inl ⟨rfl, Nat.eq_of_beq_eq_true h⟩

theorem getK_eq {α : Sort _} (t : Nat) (k : SV → α) : ∀ e : Env, Env.getK e t k = k (Env.get e t)
  | [] => rfl
  | (s, v) :: r => by
    unfold Env.getK Env.get
    rcases beq_cases s t with ⟨h, _⟩ | ⟨h, _⟩ <;> rw [h]
    · rfl
    · exact getK_eq t k r
theorem putK_eq {α : Sort _} (t : Nat) (v : SV) : ∀ (e : Env) (k : Env → α), Env.putK e t v k = k (Env.put e t v)
  | [], k => rfl
  | (s, w) :: r, k => by
    unfold Env.putK Env.put
    rcases beq_cases s t with ⟨h, _⟩ | ⟨h, _⟩ <;> rw [h]
    · rfl
    · exact putK_eq t v r _
theorem dropK_eq {α : Sort _} (t : Nat) : ∀ (e : Env) (k : Env → α), Env.dropK e t k = k (Env.drop e t)
  | [], k => rfl
  | (s, w) :: r, k => by
    unfold Env.dropK Env.drop
    rcases beq_cases s t with ⟨h, _⟩ | ⟨h, _⟩ <;> rw [h]
    · exact dropK_eq t r _
    · exact dropK_eq t r _
def Env.drops : List Nat → Env → Env
  | [], e => e
  | t :: ts, e => Env.drops ts (Env.drop e t)
theorem dropsK_eq {α : Sort _} : ∀ (ts : List Nat) (e : Env) (k : Env → α), Env.dropsK ts e k = k (Env.drops ts e)
  | [], e, k => rfl
  | t :: ts, e, k => by unfold Env.dropsK Env.drops; rw [dropK_eq]; exact dropsK_eq ts _ k
theorem get_put (e : Env) (t : Nat) (v : SV) (u : Nat) : Env.get (Env.put e t v) u = if u = t then v else Env.get e u := by
  induction e with
  | nil =>
    unfold Env.put Env.get Env.get
    rcases beq_cases t u with ⟨h, h'⟩ | ⟨h, h'⟩ <;> rw [h]
    · rw [if_pos h'.symm]; rfl
    · rw [if_neg (fun e => h' e.symm)]; rfl
  | cons x r ih =>
    obtain ⟨s, w⟩ := x
    unfold Env.put
    rcases beq_cases s t with ⟨h, h'⟩ | ⟨h, h'⟩ <;> rw [h]
    · subst h'
      simp only [cond_true]
      unfold Env.get
      rcases beq_cases s u with ⟨h2, h2'⟩ | ⟨h2, h2'⟩ <;> rw [h2]
      · rw [if_pos h2'.symm]; rfl
      · rw [if_neg (fun e => h2' e.symm)]; rfl
    · simp only [cond_false]
      unfold Env.get
      rcases beq_cases s u with ⟨h2, h2'⟩ | ⟨h2, h2'⟩ <;> rw [h2]
      · subst h2'; rw [if_neg h']; rfl
      · exact ih
theorem get_drop (e : Env) (t u : Nat) : Env.get (Env.drop e t) u = .undef ∨ Env.get (Env.drop e t) u = Env.get e u := by
  induction e with
  | nil => exact .inl rfl
  | cons x r ih =>
    obtain ⟨s, w⟩ := x
    unfold Env.drop
    rcases beq_cases s t with ⟨h, h'⟩ | ⟨h, h'⟩ <;> rw [h]
    · subst h'
      simp only [cond_true]
      have key : u = s → Env.get (Env.drop r s) u = .undef := by
        rintro rfl
        clear ih
        induction r with
        | nil => rfl
        | cons y r ih =>
          obtain ⟨s', w'⟩ := y
          unfold Env.drop
          rcases beq_cases s' u with ⟨h, h'⟩ | ⟨h, h'⟩ <;> rw [h]
          · exact ih
          · simp only [cond_false]; unfold Env.get; rw [h]; exact ih
      by_cases hu : u = s
      · exact .inl (key hu)
      · have : Env.get ((s, w) :: r) u = Env.get r u := by
          rcases beq_cases s u with ⟨h2, h2'⟩ | ⟨h2, h2'⟩
          · exact absurd h2'.symm hu
          · conv => lhs; unfold Env.get
            rw [h2]; rfl
        rw [this]; exact ih
    · simp only [cond_false]
      rcases beq_cases s u with ⟨h2, h2'⟩ | ⟨h2, h2'⟩
      · right; unfold Env.get; rw [h2]; rfl
      · have e1 : Env.get ((s, w) :: Env.drop r t) u = Env.get (Env.drop r t) u := by conv => lhs; unfold Env.get
                                                                                      rw [h2]; rfl
        have e2 : Env.get ((s, w) :: r) u = Env.get r u := by conv => lhs; unfold Env.get
                                                              rw [h2]; rfl
        rw [e1, e2]; exact ih
theorem get_drops (ts : List Nat) : ∀ (e : Env) (u : Nat), Env.get (Env.drops ts e) u = .undef ∨ Env.get (Env.drops ts e) u = Env.get e u := by
  induction ts with
  | nil => exact fun e u => .inr rfl
  | cons t ts ih =>
    intro e u
    unfold Env.drops
    rcases ih (Env.drop e t) u with h | h
    · exact .inl h
    · rw [h]; exact get_drop e t u

theorem lookO_eq {α : Sort _} (i : Nat) (k : AObj → α) (d : α) : ∀ l : List (Nat × AObj), lookO l i k d = match objL l i with | some o => k o | none => d
  | [] => rfl
  | (s, o) :: r => by
    unfold lookO objL
    rcases beq_cases s i with ⟨h, h'⟩ | ⟨h, h'⟩ <;> rw [h]
    · rw [if_pos h']
    · rw [if_neg h']; exact lookO_eq i k d r
def putO : List (Nat × AObj) → Nat → AObj → List (Nat × AObj)
  | [], _, _ => []
  | (s, o) :: r, i, o' => if s = i then (s, o') :: r else (s, o) :: putO r i o'
theorem setO_eq {α : Sort _} (i : Nat) (o' : AObj) : ∀ (l : List (Nat × AObj)) (k : List (Nat × AObj) → α), setO l i o' k = k (putO l i o')
  | [], k => rfl
  | (s, o) :: r, k => by
    unfold setO putO
    rcases beq_cases s i with ⟨h, h'⟩ | ⟨h, h'⟩ <;> rw [h]
    · rw [if_pos h']
    · rw [if_neg h']; exact setO_eq i o' r _
theorem objL_put (l : List (Nat × AObj)) (i : Nat) (o' : AObj) (j : Nat) : objL (putO l i o') j = if j = i then (objL l i).map (fun _ => o') else objL l j := by
  induction l with
  | nil => unfold putO objL; split <;> rfl
  | cons x r ih =>
    obtain ⟨s, o⟩ := x
    unfold putO
    by_cases h : s = i
    · subst h
      rw [if_pos rfl]
      unfold objL
      by_cases h2 : s = j
      · subst h2; simp
      · rw [if_neg h2, if_neg (fun e => h2 e.symm), if_neg h2]
    · rw [if_neg h]
      unfold objL
      by_cases h2 : s = j
      · subst h2; rw [if_pos rfl, if_neg h, if_pos rfl]
      · rw [if_neg h2, if_neg h, if_neg h2]; exact ih
theorem asr_iff {b : Bool} {p : Prop} : asr b p ↔ b = true ∧ p := by
  cases b
  · exact ⟨fun h => h.elim, fun h => by cases h.1⟩
  · exact ⟨fun h => ⟨rfl, h⟩, fun h => h.2⟩
theorem brT {b : Bool} {p : Prop} (h : b = true) (hp : p) : @Bool.rec (fun _ => Prop) False p b := asr_iff.2 ⟨h, hp⟩
theorem br {b : Bool} {p q : Prop} (h1 : b = true → p) (h0 : b = false → q) : @Bool.rec (fun _ => Prop) q p b := by
  cases b
  · exact h0 rfl
  · exact h1 rfl
theorem brE {b : Bool} {p q : Prop} (h : @Bool.rec (fun _ => Prop) q p b) : (b = true ∧ p) ∨ (b = false ∧ q) := by
  cases b
  · exact .inr ⟨rfl, h⟩
  · exact .inl ⟨rfl, h⟩

theorem cellsK_iff {v : SV} {k : List SV → Prop} : v.cellsK k ↔ v ≠ .undef ∧ k v.cells := by
  cases v <;> simp [SV.cellsK, SV.cells]

def AOpd.ev (e : Env) : AOpd → SV
  | .tmp t => Env.get e t
  | .const v => v
theorem evK_eq {α : Sort _} (e : Env) (x : AOpd) (k : SV → α) : x.evK e k = k (x.ev e) := by
  cases x
  · exact getK_eq _ _ _
  · rfl
theorem evsK_eq {α : Sort _} (e : Env) : ∀ (l : List AOpd) (k : List SV → α), evsK e l k = k (l.map (AOpd.ev e))
  | [], k => rfl
  | x :: r, k => by
    unfold evsK
    rw [evK_eq, evsK_eq e r]
    rfl

/-- The slots read so. -/
def ER (c : Cx) (h : Heap) (w : World) (e : Env) (tmps : Array Value) : Prop := ∀ t, VR c h w (Env.get e t) (tmps.getD t undef)

theorem ofVal_vp {Im : Nat → Prop} {w : World} : ∀ (n : Nat) (v : Value), VP Im w (ofVal n v) v
  | 0, v => .undef v
  | n+1, v => by
    unfold ofVal
    split
    · exact .bool _
    · exact .int _ _
    · rename_i s
      have : (⟨s.data.toList.toArray⟩ : ByteArray) = s := by cases s; rfl
      conv => rhs; rw [← this]
      exact .str _
    · exact .nilp
    · exact .nils
    · exact .nilf
    · exact .nili
    · exact .nilm
    · exact .iface _ _ _ (ofVal_vp n _)
    · refine .agg _ _ (by simp) fun i v x hv hx => ?_
      simp only [List.getElem?_map, Option.map_eq_some_iff, Array.getElem?_toList] at hv
      obtain ⟨y, hy, rfl⟩ := hv
      rw [hx] at hy; cases hy
      exact ofVal_vp n _
    · refine .tup _ _ (by simp) fun i v x hv hx => ?_
      simp only [List.getElem?_map, Option.map_eq_some_iff, Array.getElem?_toList] at hv
      obtain ⟨y, hy, rfl⟩ := hv
      rw [hx] at hy; cases hy
      exact ofVal_vp n _
    · exact .undef _

section
variable {P : Program} {Γ : CallR} {c : Cx} {h : Heap} {w : World} {e : Env} {a : Act}

theorem ER.ev (he : ER c h w e a.tmps) (x : Operand) : VR c h w ((cOpd x).ev e) (a.eval x) := by
  cases x with
  | tmp t => exact he t
  | const v => exact .pure (ofVal_vp 4 v)
  | global g => exact .pure (.glob g)
  | func f => exact .pure (.func _ _ _ _ _ rfl rfl (fun i v x hv => by simp at hv) (fun i v x hv => by simp at hv))

def putE (e : Env) (d : Option Nat) (v : SV) : Env := match d with
  | some t => Env.put e t v
  | none => e
theorem ER.put (he : ER c h w e a.tmps) {d : Option Nat} {v : SV} {x : Value} (hd : ∀ t, d = some t → t < a.tmps.size) (hv : VR c h w v x) :
    ER c h w (putE e d v) (a.put d x).tmps := by
  cases d with
  | none => exact he
  | some t =>
    intro u
    have ht := hd t rfl
    simp only [Act.put, putE, get_put]
    by_cases hu : u = t
    · subst hu
      rw [if_pos rfl]
      simpa [Array.getD_eq_getD_getElem?, ht] using hv
    · rw [if_neg hu]
      have := he u
      simpa [Array.getD_eq_getD_getElem?, Array.getElem?_setIfInBounds, Ne.symm hu] using this
theorem ER.mono (hr : Rep c h w) {c' : Cx} {h' : Heap} {w' : World} {tmps : Array Value} (he : ER c h w e tmps) (hx : Ext c h w c' h' w') : ER c' h' w' e tmps := fun t => (he t).mono hr hx
theorem ER.drops {tmps : Array Value} (he : ER c h w e tmps) (ts : List Nat) : ER c h w (Env.drops ts e) tmps := fun t => by
  rcases get_drops ts e t with h | h
  · rw [h]; exact .undef
  · rw [h]; exact he t

theorem putD_eq (e : Env) (d : Option Nat) (v : SV) (k : Env → Prop) : putD e d v k = k (putE e d v) := by
  cases d
  · rfl
  · exact putK_eq _ _ _ _

theorem add_eq (b o n : Nat) : (⟨b, o, none⟩ : Addr).add n = ⟨b, o + n, none⟩ := by unfold Addr.add; split <;> simp_all

theorem getL_eq {α : Type _} : ∀ (l : List α) (i : Nat), getL l i = l[i]?
  | [], i => by simp [getL]
  | x :: r, 0 => by simp [getL]
  | x :: r, i+1 => by simpa [getL] using getL_eq r i
theorem dropN_iff : ∀ {l : List SV} {n : Nat} {k : List SV → Prop}, dropN l n k ↔ n ≤ l.length ∧ k (l.drop n)
  | l, 0, k => by simp [dropN]
  | [], n+1, k => by simp [dropN]
  | x :: r, n+1, k => by simp [dropN, dropN_iff]
theorem takeN_iff : ∀ {l : List SV} {n : Nat} {k : List SV → Prop}, takeN l n k ↔ n ≤ l.length ∧ k (l.take n)
  | l, 0, k => by cases l <;> simp [takeN]
  | [], n+1, k => by simp [takeN]
  | x :: r, n+1, k => by simp [takeN, takeN_iff]


/-- What a pointer that can be read points into. -/
theorem readP_inv (hr : Rep c h w) {p : SV} {x : Value} (hx : VR c h w p x) {k : List SV → Nat → Prop} (hp : readP h p k) :
    ∃ cs sub b base C ty fz, k cs sub ∧ x = .pointer (some ⟨b, base + sub, none⟩) ∧ w.heap[b]? = some (.cells C ty fz) ∧ base + cs.length ≤ C.size ∧
      ∀ (j : Nat) (v : SV) (y : Value), cs[j]? = some v → C[base + j]? = some y → VR c h w v y := by
  unfold readP at hp
  split at hp
  · rename_i v sub
    obtain ⟨b, o, C, ty, fz, rfl, hb, hw, hn, hc⟩ := hx.ipt_inv
    obtain ⟨_, hk⟩ := cellsK_iff.1 hp
    exact ⟨_, _, b, o, C, ty, fz, hk, rfl, hw, hn, fun j v y hv hy => .pure (hc j v y hv hy)⟩
  · rename_i g
    split at hp
    · rename_i v hv
      obtain ⟨_, hk⟩ := cellsK_iff.1 hp
      obtain ⟨_, C, ty, fz, hw, hn, hc⟩ := hr.glob.1 g v hv
      exact ⟨_, _, g, 0, C, ty, fz, hk, hx.glob_inv, hw, by omega, fun j u y hu hy => .pure (hc j u y hu (by rw [Nat.zero_add] at hy; exact hy))⟩
    · exact hp.elim
  · rename_i i g idx sub
    obtain ⟨n, l⟩ := h
    simp only [lookO_eq] at hp
    split at hp
    · rename_i o ho
      split at hp
      · rename_i g' sz elems slack
        replace hp := asr_iff.1 hp
        obtain ⟨hg, hp⟩ := hp
        have hg' := Nat.eq_of_beq_eq_true hg
        clear hg
        subst hg'
        split at hp
        · rename_i v hv
          obtain ⟨hu, hk⟩ := cellsK_iff.1 hp
          have hxx := hx.ref_inv (o := .vec g' sz elems slack) ho rfl
          have hor := hr.obj i _ ho
          cases hor with
          | vec g sz elems slack C ty fz hw hle heq hty hc hf hcell =>
            have hgl : elems[idx]? = some v := by
              rw [← getL_eq]; exact hv
            have hlt : idx < elems.length := by
              rcases Nat.lt_or_ge idx elems.length with h | h
              · exact h
              · rw [List.getElem?_eq_none h] at hgl; cases hgl
            have hlen : v.cells.length = sz := hc v (List.mem_of_getElem? hgl)
            refine ⟨_, _, _, idx * sz, C, ty, fz, hk, hxx, hw, ?_, fun j u y hu hy => hcell idx j v u y hgl hu hy⟩
            have : (idx + 1) * sz ≤ elems.length * sz := Nat.mul_le_mul_right _ hlt
            rw [hlen]
            have e1 : (idx + 1) * sz = idx * sz + sz := by rw [Nat.succ_mul]
            omega
        · exact hp.elim
      · exact hp.elim
    · exact hp.elim
  · exact hp.elim

theorem isAgg_run {t : TypeId} {b : Bool} (hb : isAggT P t = some b) : (isAgg t).run P w = .ok b w := by
  unfold isAggT at hb
  unfold isAgg
  split at hb <;> rename_i hu <;> cases hb <;> simp [run_underlying hu]
theorem sizeOf_run {t : TypeId} {i : TypeInfo} (hi : P.info? t = some i) : (Go.sizeOf t).run P w = .ok i.size w := by simp [Go.sizeOf, typeInfo, hi]
theorem zero_run {t : TypeId} {i : TypeInfo} {z : Value} (hi : P.info? t = some i) (hz : i.zero = some z) : (zeroValue t).run P w = .ok z w := by simp [zeroValue, typeInfo, hi, hz]

/-- The operation reads so, and turns nothing. -/
def Sees (P : Program) (c : Cx) (h : Heap) (w : World) (a : Act) (o : Oper) (k : SV → Heap → Prop) : Prop :=
  ∃ v x, k v h ∧ (execOp a.eval o).run P w = .ok (.value x) w ∧ VR c h w v x

theorem sees_load (hr : Rep c h w) (he : ER c h w e a.tmps) {o : Oper} {t : TypeId} {x : Operand} (ho : o.op = .load t x) {k kp : SV → Heap → Prop} (hp : aop P Γ (cOp P o.op) e h k kp) : Sees P c h w a o k := by
  simp only [ho, cOp] at hp
  have hrun : ∀ b off y, a.eval x = .pointer (some ⟨b, off, none⟩) → (loadVar t ⟨b, off, none⟩).run P w = .ok y w → (execOp a.eval o).run P w = .ok (.value y) w := by
    intro b off y hx hy
    simp [execOp, ho, hx, Instr.loadAt, Instr.sureAddr, hy]
  split at hp
  · rename_i i hag hi
    simp only [aop, evK_eq] at hp
    obtain ⟨cs, sub, b, base, C, ty, fz, hk, hx, hw, hle, hc⟩ := readP_inv hr (he.ev x) hp
    obtain ⟨h1, hk⟩ := dropN_iff.1 hk
    obtain ⟨h2, hk⟩ := takeN_iff.1 hk
    simp only [List.length_drop] at h2
    let l := (C.toList.drop (base + sub)).take i.size
    have hl : l.length = i.size := by simp [l]; omega
    refine ⟨_, .agg l.toArray, hk, hrun _ _ _ hx ?_, .agg _ _ (by simp [l]; omega) fun j v y hv hy => ?_⟩
    · have := run_loadCells_list (P := P) w ⟨b, base + sub, none⟩ l (fun j v hv => by
        rw [add_eq]
        simp only [World.cell?, hw, Option.isSome_none, if_false]
        simp only [l, List.getElem?_take, List.getElem?_drop] at hv
        split at hv
        · simpa using hv
        · cases hv)
      rw [hl] at this
      simp [loadVar, isAgg_run hag, sizeOf_run hi, this]
    · simp only [List.getElem?_take, List.getElem?_drop] at hv
      simp only [l, List.getElem?_toArray, List.getElem?_take, List.getElem?_drop] at hy
      split at hv
      · rw [if_pos ‹_›] at hy
        exact hc (sub + j) v y hv (by simpa [Nat.add_assoc] using hy)
      · cases hv
  · rename_i hag
    simp only [aop, evK_eq] at hp
    obtain ⟨cs, sub, b, base, C, ty, fz, hk, hx, hw, hle, hc⟩ := readP_inv hr (he.ev x) hp
    rw [getL_eq] at hk
    split at hk
    · rename_i v hv
      have hlt : sub < cs.length := by
        rcases Nat.lt_or_ge sub cs.length with h | h
        · exact h
        · rw [List.getElem?_eq_none h] at hv; cases hv
      have hy : C[base + sub]? = some C[base + sub] := Array.getElem?_eq_getElem (by omega)
      refine ⟨v, C[base + sub], hk, hrun _ _ _ hx ?_, hc sub v _ hv hy⟩
      simp [loadVar, isAgg_run hag, World.cell?, hw, hy]
    · exact hk.elim
  · exact hp.elim
end
end Ab
