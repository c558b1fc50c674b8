/- Parts of the proof of PCatalogBack, one behind the other, with short names. -/
import Derived.Calls
import GoSem.PinnedTables
import Derived.Orders
import Derived.Below
set_option linter.unusedVariables false
set_option linter.unusedSimpArgs false
namespace Ab
def dK:Nat->List (Go.IntKind×Int)
 |0=>Go.Pinned.utf8FirstZ.map fun(n:Nat)=>(Go.IntKind.u8,Int.ofNat n)
 |1=>[(.u8,128),(.u8,191),(.u8,160),(.u8,191),(.u8,128),(.u8,159),(.u8,144),(.u8,191),(.u8,128),(.u8,143),(.u8,0),(.u8,0),(.u8,0),(.u8,0),(.u8,0),(.u8,0),(.u8,0),(.u8,0),(.u8,0),(.u8,0),(.u8,0),(.u8,0),(.u8,0),(.u8,0),(.u8,0),(.u8,0),(.u8,0),(.u8,0),(.u8,0),(.u8,0),(.u8,0),(.u8,0)]
 |3=>[(.u8,0),(.u8,0),(.u8,0),(.u8,0),(.u8,0),(.u8,0),(.u8,0),(.u8,0),(.u8,0),(.u8,1),(.u8,1),(.u8,1),(.u8,1),(.u8,1),(.u8,0),(.u8,0),(.u8,0),(.u8,0),(.u8,0),(.u8,0),(.u8,0),(.u8,0),(.u8,0),(.u8,0),(.u8,0),(.u8,0),(.u8,0),(.u8,0),(.u8,0),(.u8,0),(.u8,0),(.u8,0),(.u8,1),(.u8,0),(.u8,0),(.u8,0),(.u8,0),(.u8,0),(.u8,0),(.u8,0),(.u8,0),(.u8,0),(.u8,0),(.u8,0),(.u8,0),(.u8,0),(.u8,0),(.u8,0),(.u8,0),(.u8,0),(.u8,0),(.u8,0),(.u8,0),(.u8,0),(.u8,0),(.u8,0),(.u8,0),(.u8,0),(.u8,0),(.u8,0),(.u8,0),(.u8,0),(.u8,0),(.u8,0),(.u8,0),(.u8,0),(.u8,0),(.u8,0),(.u8,0),(.u8,0),(.u8,0),(.u8,0),(.u8,0),(.u8,0),(.u8,0),(.u8,0),(.u8,0),(.u8,0),(.u8,0),(.u8,0),(.u8,0),(.u8,0),(.u8,0),(.u8,0),(.u8,0),(.u8,0),(.u8,0),(.u8,0),(.u8,0),(.u8,0),(.u8,0),(.u8,0),(.u8,0),(.u8,0),(.u8,0),(.u8,0),(.u8,0),(.u8,0),(.u8,0),(.u8,0),(.u8,0),(.u8,0),(.u8,0),(.u8,0),(.u8,0),(.u8,0),(.u8,0),(.u8,0),(.u8,0),(.u8,0),(.u8,0),(.u8,0),(.u8,0),(.u8,0),(.u8,0),(.u8,0),(.u8,0),(.u8,0),(.u8,0),(.u8,0),(.u8,0),(.u8,0),(.u8,0),(.u8,0),(.u8,0),(.u8,0),(.u8,0),(.u8,0),(.u8,0),(.u8,0),(.u8,0),(.u8,0),(.u8,0),(.u8,0),(.u8,0),(.u8,0),(.u8,0),(.u8,0),(.u8,0),(.u8,0),(.u8,0),(.u8,0),(.u8,0),(.u8,0),(.u8,0),(.u8,0),(.u8,0),(.u8,0),(.u8,0),(.u8,0),(.u8,0),(.u8,0),(.u8,0),(.u8,0),(.u8,0),(.u8,0),(.u8,0),(.u8,0),(.u8,0),(.u8,0),(.u8,0),(.u8,0),(.u8,0),(.u8,0),(.u8,0),(.u8,0),(.u8,0),(.u8,0),(.u8,0),(.u8,0),(.u8,0),(.u8,0),(.u8,0),(.u8,0),(.u8,0),(.u8,0),(.u8,0),(.u8,0),(.u8,0),(.u8,0),(.u8,0),(.u8,0),(.u8,0),(.u8,0),(.u8,0),(.u8,0),(.u8,0),(.u8,0),(.u8,0),(.u8,0),(.u8,0),(.u8,0),(.u8,0),(.u8,0),(.u8,0),(.u8,0),(.u8,0),(.u8,0),(.u8,0),(.u8,0),(.u8,0),(.u8,0),(.u8,0),(.u8,0),(.u8,0),(.u8,0),(.u8,0),(.u8,0),(.u8,0),(.u8,0),(.u8,0),(.u8,0),(.u8,0),(.u8,0),(.u8,0),(.u8,0),(.u8,0),(.u8,0),(.u8,0),(.u8,0),(.u8,0),(.u8,0),(.u8,0),(.u8,0),(.u8,0),(.u8,0),(.u8,0),(.u8,0),(.u8,0),(.u8,0),(.u8,0),(.u8,0),(.u8,0),(.u8,0),(.u8,0),(.u8,0),(.u8,0),(.u8,0),(.u8,0),(.u8,0),(.u8,0),(.u8,0),(.u8,0),(.u8,0),(.u8,0),(.u8,0),(.u8,0),(.u8,0),(.u8,0),(.u8,0),(.u8,0),(.u8,0),(.u8,0),(.u8,0),(.u8,0),(.u8,0)]
 |5=>[(.u64,1),(.u64,10),(.u64,100),(.u64,1000),(.u64,10000),(.u64,100000),(.u64,1000000),(.u64,10000000),(.u64,100000000),(.u64,1000000000),(.u64,10000000000),(.u64,100000000000),(.u64,1000000000000),(.u64,10000000000000),(.u64,100000000000000),(.u64,1000000000000000),(.u64,10000000000000000),(.u64,100000000000000000),(.u64,1000000000000000000),(.u64,10000000000000000000)]
 |_=>[]
def Ed:List Nat:=[8]
end Ab
namespace Ab
open Go
section
inductive SV where
 |undef
 |bool (b:Bool)
 |int (k:IntKind) (n:Int)
 |str (s:List UInt8)
 |eM
 |ref (i g idx sub:Nat)
 |kK (v:SV) (sub:Nat)
 |dj (g:Nat)
 |af
 |aW (sz n:Nat) (get:Nat->SV)
 |sl (i g sz off len:Nat) (cap:Option Nat)
 |func (fn:Fn) (first captured:List SV)
 |jo
 |iface (t:TypeId) (v:SV)
 |dF
 |agg (l:List SV)
 |bn (l:List SV)
 |gb
 |cW (i g:Nat)
 deriving Inhabited
structure Sk where
 fS:Bool
 ty:Option TypeId
inductive ai where
 |vec (g sz:Nat) (elems:List SV) (fS:Sk)
 |iter (s:List UInt8) (pos:Nat)
 |map (es:List (SV×SV×Nat)) (clock:Nat)
 |cy (m:SV) (since:Nat) (seen:List Nat) (stepped:Nat)
 |kf (g:Nat) (ty:TypeId) (xs:List SV)
def ai.gen:ai->Nat
 | .vec g _ _ _=>g
 | .iter _ _=>0
 | .map _ _=>0
 | .cy .. =>0
 | .kf g _ _=>g
def ai.sz:ai->Nat
 | .vec _ sz _ _=>sz
 | .iter _ _=>0
 | .map _ _=>0
 | .cy .. =>0
 | .kf .. =>1
structure Heap where
 cI:Nat
 l:List (Nat×ai)
def ak:List (Nat×ai)->Nat->Option ai
 | [],_=>none
 |(s,o)::r,i=>if s=i then some o else ak r i
def Heap.obj(h:Heap)(i:Nat):Option ai:=ak h.l i
def SV.cells:SV->List SV
 | .agg l=>l
 |v=>[v]
inductive VP(Im:Nat->Prop)(w:World):SV->Value->Prop
 |undef (x:Value):VP Im w .undef x
 |bool (b:Bool):VP Im w (.bool b) (.bool b)
 |int (k:IntKind) (n:Int):VP Im w (.int k n) (.int k n)
 |str (s:List UInt8):VP Im w (.str s) (.string ⟨s.toArray⟩)
 |eM:VP Im w .eM (.pointer none)
 |dj (g:Nat):VP Im w (.dj g) (.pointer (some ⟨g,0,none⟩))
 |af:VP Im w .af (.slice none 0 0)
 |jo:VP Im w .jo .nilFunc
 |dF:VP Im w .dF .nilIface
 |gb:VP Im w .gb (.map none)
 |iface (t:TypeId) (v:SV) (x:Value) (h:VP Im w v x):VP Im w (.iface t v) (.iface t x)
 |agg (l:List SV) (cs:Array Value) (hl:cs.size=l.length)
  (h: ∀(i:Nat) (v:SV) (x:Value),l[i]? =some v->cs[i]? =some x->VP Im w v x):VP Im w (.agg l) (.agg cs)
 |bn (l:List SV) (cs:Array Value) (hl:cs.size=l.length)
  (h: ∀(i:Nat) (v:SV) (x:Value),l[i]? =some v->cs[i]? =some x->VP Im w v x):VP Im w (.bn l) (.tuple cs)
 |func (fn:Fn) (a b:List SV) (a' b':Array Value) (ha:a'.size=a.length) (hb:b'.size=b.length)
  (h: ∀(i:Nat) (v:SV) (x:Value),a[i]? =some v->a'[i]? =some x->VP Im w v x)
  (h': ∀(i:Nat) (v:SV) (x:Value),b[i]? =some v->b'[i]? =some x->VP Im w v x):VP Im w (.func fn a b) (.func fn a' b')
 |pE (sz:Nat) (get:Nat->SV) (a:Option Addr) (cap:Nat):VP Im w (.aW sz 0 get) (.slice a 0 cap)
 |aW (sz n:Nat) (get:Nat->SV) (b off cap:Nat) (C:Array Value) (ty:TypeId) (fz:Nat×Nat) (hb:Im b) (hw:w.heap[b]? =some (.cells C ty fz))
  (hn:off+n*sz<=C.size) (hcap:n<=cap) (hc: ∀i,i<n->(get i).cells.length=sz)
  (h: ∀(i j:Nat) (v:SV) (x:Value),i<n->(get i).cells[j]? =some v->C[off+i*sz+j]? =some x->VP Im w v x):
  VP Im w (.aW sz n get) (.slice (some ⟨b,off,none⟩) n cap)
 |kK (v:SV) (sub b o:Nat) (C:Array Value) (ty:TypeId) (fz:Nat×Nat) (hb:Im b) (hw:w.heap[b]? =some (.cells C ty fz))
  (hn:o+v.cells.length<=C.size)
  (h: ∀(j:Nat) (u:SV) (x:Value),v.cells[j]? =some u->C[o+j]? =some x->VP Im w u x):
  VP Im w (.kK v sub) (.pointer (some ⟨b,o+sub,none⟩))
theorem VP.mono{Im Tr:Nat->Prop}{w w':World}(hI: ∀b,Im b->Tr b)(hh: ∀b,Im b->w'.heap[b]? =w.heap[b]?){v:SV}{x:Value}(h:VP Im w v x):VP Tr w' v x:=by
 induction h with
 |undef x=>exact .undef x
 |bool b=>exact .bool b
 |int k n=>exact .int k n
 |str s=>exact .str s
 |eM=>exact .eM
 |dj g=>exact .dj g
 |af=>exact .af
 |jo=>exact .jo
 |dF=>exact .dF
 |gb=>exact .gb
 |iface t v x _ ih=>exact .iface t v x ih
 |agg l cs hl _ ih=>exact .agg l cs hl ih
 |bn l cs hl _ ih=>exact .bn l cs hl ih
 |func fn a b a' b' ha hb _ _ ih Ak=>exact .func fn a b a' b' ha hb ih Ak
 |pE sz get a cap=>exact .pE sz get a cap
 |aW sz n get b off cap C ty fz hb hw hn hcap hc _ ih=>exact .aW sz n get b off cap C ty fz (hI b hb) ((hh b hb).trans hw) hn hcap hc ih
 |kK v sub b o C ty fz hb hw hn _ ih=>exact .kK v sub b o C ty fz (hI b hb) ((hh b hb).trans hw) hn ih
structure Cx where
 β:Nat->Nat
 Im:Nat->Prop
inductive VR(c:Cx)(A:Heap)(w:World):SV->Value->Prop
 |pure {v:SV} {x:Value} (h:VP c.Im w v x):VR c A w v x
 |ref (i g idx sub:Nat) (x:Value) (hx: ∃a,x= .pointer a) (hi:i<A.cI) (hg: ∀o,A.obj i=some o->g<=o.gen)
  (h: ∀o,A.obj i=some o->o.gen=g->x= .pointer (some ⟨c.β i,idx*o.sz+sub,none⟩)):VR c A w (.ref i g idx sub) x
 |sl (i g sz off len:Nat) (cap:Option Nat) (x:Value) (hx: ∃a l c,x= .slice a l c) (hi:i<A.cI) (hg: ∀o,A.obj i=some o->g<=o.gen)
  (h: ∀o,A.obj i=some o->o.gen=g->o.sz=sz/\ ∃a cc,x= .slice (some a) len cc/\len<=cc/\(∀ k,cap=some k->cc=k)/\
   (cc=0\/a=⟨c.β i,off*sz,none⟩/\ ∃ty n,w.shape? (c.β i)=some (ty,n)/\off*sz+cc*sz<=n)/\
   (cap=none-> ∃ty n,w.shape? (c.β i)=some (ty,n)/\off*sz+cc*sz=n)):VR c A w (.sl i g sz off len cap) x
 |cW (i g:Nat) (x:Value) (hx: ∃r,x= .map r) (hi:i<A.cI) (hg: ∀o,A.obj i=some o->g<=o.gen) (h: ∀o,A.obj i=some o->o.gen=g->x= .map (some (c.β i))):VR c A w (.cW i g) x
 |iface (t:TypeId) (v:SV) (x:Value) (h:VR c A w v x):VR c A w (.iface t v) (.iface t x)
 |agg (l:List SV) (cs:Array Value) (hl:cs.size=l.length)
  (h: ∀(i:Nat) (v:SV) (x:Value),l[i]? =some v->cs[i]? =some x->VR c A w v x):VR c A w (.agg l) (.agg cs)
 |bn (l:List SV) (cs:Array Value) (hl:cs.size=l.length)
  (h: ∀(i:Nat) (v:SV) (x:Value),l[i]? =some v->cs[i]? =some x->VR c A w v x):VR c A w (.bn l) (.tuple cs)
 |func (fn:Fn) (a b:List SV) (a' b':Array Value) (ha:a'.size=a.length) (hb:b'.size=b.length)
  (h: ∀(i:Nat) (v:SV) (x:Value),a[i]? =some v->a'[i]? =some x->VR c A w v x)
  (h': ∀(i:Nat) (v:SV) (x:Value),b[i]? =some v->b'[i]? =some x->VR c A w v x):VR c A w (.func fn a b) (.func fn a' b')
def valOf:Nat->SV->Value
 |0,_=>undef
 |n+1,v=>match v with
  | .bool b=> .bool b
  | .int k m=> .int k m
  | .str s=> .string ⟨s.toArray⟩
  | .eM=> .pointer none
  | .af=> .slice none 0 0
  | .jo=> .nilFunc
  | .dF=> .nilIface
  | .gb=> .map none
  | .agg l=> .agg (l.map (valOf n)).toArray
  |_=>undef
def eB:Nat->SV->Bool
 |0,_=>false
 |n+1,v=>match v with
  | .bool _| .int _ _| .str _| .eM| .af| .jo| .dF| .gb=>true
  | .agg l=>l.all (eB n)
  |_=>false
def dB(e:SV×SV×Nat):MapEntry:=⟨valOf 4 e.1,valOf 4 e.2.1,e.2.2⟩
inductive OR(c:Cx)(A:Heap)(w:World)(b:Nat):ai->Prop
 |vec (g sz:Nat) (elems:List SV) (fS:Sk) (C:Array Value) (ty:TypeId) (fz:Nat×Nat) (hw:w.heap[b]? =some (.cells C ty fz))
  (hle:elems.length*sz<=C.size) (heq:fS.fS=false->elems.length*sz=C.size) (hty: ∀t,fS.ty=some t->t=ty) (hc: ∀v∈elems,v.cells.length=sz)
  (hf: ∀k,k<C.size-> ¬(fz.1<=k/\k<fz.2))
  (h: ∀(i j:Nat) (e v:SV) (x:Value),elems[i]? =some e->e.cells[j]? =some v->C[i*sz+j]? =some x->VR c A w v x):OR c A w b (.vec g sz elems fS)
 |iter (s:List UInt8) (pos:Nat) (hw:w.heap[b]? =some (.stringIter ⟨s.toArray⟩ pos)):OR c A w b (.iter s pos)
 |map (es:List (SV×SV×Nat)) (clock:Nat) (hw:w.heap[b]? =some (.map (es.map dB).toArray clock)) (hs: ∀p∈es,eB 4 p.2.1=true):OR c A w b (.map es clock)
 |cy (m:SV) (since:Nat) (seen:List Nat) (stepped:Nat) (r:Option Nat) (hw:w.heap[b]? =some (.mapIter r since seen.toArray stepped)) (hm:VR c A w m (.map r)):OR c A w b (.cy m since seen stepped)
 |kf (g:Nat) (ty:TypeId) (xs:List SV) (C:Array Value) (fz:Nat×Nat) (hw:w.heap[b]? =some (.cells C ty fz)) (hle:xs.length<=C.size) (hc: ∀(j:Nat) (m:Int),xs[j]? =some (.int .u8 m)->C[j]? =some (.int .u8 m)):OR c A w b (.kf g ty xs)
def vS(g:Nat):Option SV:=match dK g with
 | []=>none
 |l=>some (.agg (l.map fun p=> .int p.1 p.2))
def gB(Im:Nat->Prop)(w:World):Prop:=(∀ g v,vS g=some v->Im g/\ ∃C ty fz,w.heap[g]? =some (.cells C ty fz)/\v.cells.length=C.size/\
 ∀(j:Nat) (u:SV) (x:Value),v.cells[j]? =some u->C[j]? =some x->VP Im w u x)/\
 ∀g,g∈Ed->Im g/\ ∃v ty fz,w.heap[g]? =some (.cells #[v] ty fz)/\(v= .nilIface\/ ∃te pe,v= .iface te pe)
theorem gB.mono{Im Tr:Nat->Prop}{w w':World}(h:gB Im w)(hI: ∀b,Im b->Tr b)(hh: ∀b,Im b->w'.heap[b]? =w.heap[b]?):gB Tr w':=⟨fun g v hg=>by
 obtain⟨h1,C,ty,fz,h2,h3,h4⟩:=h.1 g v hg;exact⟨hI g h1,C,ty,fz,(hh g h1).trans h2,h3,fun j u x hu hx=>(h4 j u x hu hx).mono hI hh⟩,fun g hg=>by
 obtain⟨h1,v,ty,fz,h2,h3⟩:=h.2 g hg;exact⟨hI g h1,v,ty,fz,(hh g h1).trans h2,h3⟩⟩
structure bT(c:Cx)(A:Heap)(w:World):Prop where
 lt: ∀i o,A.obj i=some o->i<A.cI
 obj: ∀i o,A.obj i=some o->OR c A w (c.β i) o
 inj: ∀i j o p,A.obj i=some o->A.obj j=some p->c.β i=c.β j->i=j
 apart: ∀i o,A.obj i=some o-> ¬c.Im (c.β i)
 im: ∀b,c.Im b->b<w.heap.size
 dj:gB c.Im w
structure Ext(c:Cx)(A:Heap)(w:World)(c':Cx)(A':Heap)(w':World):Prop where
 os:w'.os=w.os
 tape:w'.tape=w.tape
 output:w'.output=w.output
 size:w.heap.size<=w'.heap.size
 frame: ∀b,b<w.heap.size->(∀ i o,A.obj i=some o->c.β i≠b)->w'.heap[b]? =w.heap[b]?
 shape: ∀b,b<w.heap.size->w'.shape? b=w.shape? b
 im: ∀b,c.Im b->c'.Im b
 im': ∀b,c'.Im b->c.Im b\/w.heap.size<=b\/ ∃i o,A.obj i=some o/\c.β i=b
 cI:A.cI<=A'.cI
 old: ∀i o',i<A.cI->A'.obj i=some o'-> ∃o,A.obj i=some o/\o.gen<=o'.gen/\o.sz=o'.sz/\(o.gen=o'.gen->c'.β i=c.β i)
 new: ∀i o',A'.obj i=some o'->w.heap.size<=c'.β i\/ ∃o,A.obj i=some o/\c'.β i=c.β i
theorem OR.lt{c:Cx}{A:Heap}{w:World}{b:Nat}{o:ai}(h:OR c A w b o):b<w.heap.size:=by
 have key: ∀x,w.heap[b]? =some x->b<w.heap.size:=fun x hx=>by
  rcases Nat.lt_or_ge b w.heap.size with hlt|hge
  ·exact hlt
  ·rw[Array.getElem?_eq_none hge]at hx;cases hx
 cases h with
 |vec g sz elems fS C ty fz hw=>exact key _ hw
 |iter s pos hw=>exact key _ hw
 |map es clock hw=>exact key _ hw
 |cy m since seen stepped r hw=>exact key _ hw
 |kf g ty xs C fz hw=>exact key _ hw
theorem Ext.refl{c:Cx}{A:Heap}{w:World}:Ext c A w c A w:=
 ⟨rfl,rfl,rfl,Nat.le_refl _,fun _ _ _=>rfl,fun _ _=>rfl,fun _ h=>h,fun _ h=> .inl h,Nat.le_refl _,
  fun _ o' _ h=>⟨o',h,Nat.le_refl _,rfl,fun _=>rfl⟩,fun _ o' h=> .inr ⟨o',h,rfl⟩⟩
theorem Ext.trans{c c' Y0:Cx}{A A' Y1:Heap}{w w' w'':World}(hr:bT c A w)(h:Ext c A w c' A' w')(k:Ext c' A' w' Y0 Y1 w''):Ext c A w Y0 Y1 w'' where
 os:=k.os.trans h.os
 tape:=k.tape.trans h.tape
 output:=k.output.trans h.output
 size:=Nat.le_trans h.size k.size
 frame b hb hn:=by
  rw[k.frame b (Nat.lt_of_lt_of_le hb h.size) ?_,h.frame b hb hn];intro i o' ho' he;rcases h.new i o' ho' with hge|⟨o,ho,mL⟩
  ·omega
  ·exact hn i o ho (mL▸he)
 shape b hb:=(k.shape b (Nat.lt_of_lt_of_le hb h.size)).trans (h.shape b hb)
 im b hb:=k.im b (h.im b hb)
 im' b hb:=by
  rcases k.im' b hb with hb|hb|⟨i,o',ho',he⟩
  ·exact h.im' b hb
  ·exact .inr (.inl (Nat.le_trans h.size hb))
  ·rcases h.new i o' ho' with hge|⟨o,ho,mL⟩
   ·exact .inr (.inl (he▸hge))
   ·exact .inr (.inr ⟨i,o,ho,mL▸he⟩)
 cI:=Nat.le_trans h.cI k.cI
 old i vq hi Al:=by
  obtain⟨o',ho',hg,hs,mL⟩:=k.old i vq (Nat.lt_of_lt_of_le hi h.cI) Al;obtain⟨o,ho,hg',hs',Ee⟩:=h.old i o' hi ho';exact⟨o,ho,Nat.le_trans hg' hg,hs'.trans hs,fun e=>by rw[mL (by omega),Ee (by omega)]⟩
 new i vq Al:=by
  rcases k.new i vq Al with hge|⟨o',ho',mL⟩
  ·exact .inl (Nat.le_trans h.size hge)
  ·rcases h.new i o' ho' with hge|⟨o,ho,Ee⟩
   ·exact .inl (mL▸hge)
   ·exact .inr ⟨o,ho,mL.trans Ee⟩
theorem Ext.JJ{c c':Cx}{A A':Heap}{w w':World}(hr:bT c A w)(h:Ext c A w c' A' w')(b:Nat)(hb:c.Im b):w'.heap[b]? =w.heap[b]? :=
 h.frame b (hr.im b hb) fun i o ho he=>hr.apart i o ho (he▸hb)
theorem bT.nj{c c':Cx}{A A':Heap}{w w':World}(hr:bT c A w)(h:Ext c A w c' A' w'):gB c'.Im w':=hr.dj.mono h.im fun b hb=>h.JJ hr b hb
theorem VR.mono{c c':Cx}{A A':Heap}{w w':World}(hr:bT c A w)(he:Ext c A w c' A' w'){v:SV}{x:Value}(h:VR c A w v x):VR c' A' w' v x:=by
 induction h with
 |pure h=>exact .pure (h.mono he.im (he.JJ hr))
 |ref i g idx sub x hx hi hg h=>
  refine .ref i g idx sub x hx (Nat.lt_of_lt_of_le hi he.cI) (fun o' ho'=> ?_) fun o' ho' hgo=> ?_
  ·obtain⟨o,ho,hg',_,_⟩:=he.old i o' hi ho'
   exact Nat.le_trans (hg o ho) hg'
  ·obtain⟨o,ho,hg',hs,mL⟩:=he.old i o' hi ho'
   have JK:o.gen=g:=by have:=hg o ho;omega
   rw[h o ho JK,hs,mL (by omega)]
 |sl i g sz off len cap x hx hi hg h=>
  refine .sl i g sz off len cap x hx (Nat.lt_of_lt_of_le hi he.cI) (fun o' ho'=> ?_) fun o' ho' hgo=> ?_
  ·obtain⟨o,ho,hg',_,_⟩:=he.old i o' hi ho'
   exact Nat.le_trans (hg o ho) hg'
  ·obtain⟨o,ho,hg',hs,mL⟩:=he.old i o' hi ho'
   have JK:o.gen=g:=by have:=hg o ho;omega
   obtain⟨hsz,a,cc,hx,hl,hk,jn,Tj⟩:=h o ho JK;have Ee:=mL (by omega);refine⟨hs.symm.trans hsz,a,cc,hx,hl,hk,jn.imp id ?_,fun hc=> ?_⟩
   ·rintro⟨ha,ty,n,hsh,hle⟩
    refine⟨by rw[ha,Ee],ty,n,?_,hle⟩;rw[Ee,he.shape _ (hr.obj i o ho).lt,hsh]
   ·obtain⟨ty,n,hsh,hle⟩:=Tj hc
    exact⟨ty,n,by rw[Ee,he.shape _ (hr.obj i o ho).lt,hsh],hle⟩
 |cW i g x hx hi hg h=>
  refine .cW i g x hx (Nat.lt_of_lt_of_le hi he.cI) (fun o' ho'=> ?_) fun o' ho' hgo=> ?_
  ·obtain⟨o,ho,hg',_,_⟩:=he.old i o' hi ho'
   exact Nat.le_trans (hg o ho) hg'
  ·obtain⟨o,ho,hg',hs,mL⟩:=he.old i o' hi ho'
   have JK:o.gen=g:=by have:=hg o ho;omega
   rw[h o ho JK,mL (by omega)]
 |iface t v x _ ih=>exact .iface t v x ih
 |agg l cs hl _ ih=>exact .agg l cs hl ih
 |bn l cs hl _ ih=>exact .bn l cs hl ih
 |func fn a b a' b' ha hb _ _ ih Ak=>exact .func fn a b a' b' ha hb ih Ak
section inv
variable {c:Cx} {A:Heap} {w:World} {x:Value}
theorem VR.dm{b:Bool}(h:VR c A w (.bool b) x):x= .bool b:=by cases h with|pure h=>cases h;rfl
theorem VR.bQ{k:IntKind}{n:Int}(h:VR c A w (.int k n) x):x= .int k n:=by cases h with|pure h=>cases h;rfl
theorem VR.eJ{s:List UInt8}(h:VR c A w (.str s) x):x= .string ⟨s.toArray⟩:=by cases h with|pure h=>cases h;rfl
theorem VR.iC(h:VR c A w .eM x):x= .pointer none:=by cases h with|pure h=>cases h;rfl
theorem VR.nk{g:Nat}(h:VR c A w (.dj g) x):x= .pointer (some ⟨g,0,none⟩):=by cases h with|pure h=>cases h;rfl
theorem VR.cF(h:VR c A w .af x):x= .slice none 0 0:=by cases h with|pure h=>cases h;rfl
theorem VR.vT(h:VR c A w .jo x):x= .nilFunc:=by cases h with|pure h=>cases h;rfl
theorem VR.kg(h:VR c A w .dF x):x= .nilIface:=by cases h with|pure h=>cases h;rfl
theorem VR.nq(h:VR c A w .gb x):x= .map none:=by cases h with|pure h=>cases h;rfl
theorem VR.nu{i g:Nat}(h:VR c A w (.cW i g) x){o:ai}(ho:A.obj i=some o)(hg:o.gen=g):x= .map (some (c.β i)):=by
 cases h with
 |pure h=>cases h
 |cW i g x hx hi hg' h=>exact h o ho hg
theorem VR.gW{t:TypeId}{v:SV}(h:VR c A w (.iface t v) x): ∃y,x= .iface t y/\VR c A w v y:=by
 cases h with
 |pure h=>cases h with|iface t v x h=>exact⟨_,rfl,.pure h⟩
 |iface t v x h=>exact⟨_,rfl,h⟩
theorem VR.iJ{l:List SV}(h:VR c A w (.agg l) x): ∃cs:Array Value,x= .agg cs/\cs.size=l.length/\ ∀(i:Nat) (v:SV) (y:Value),l[i]? =some v->cs[i]? =some y->VR c A w v y:=by
 cases h with
 |pure h=>cases h with|agg l cs hl h=>exact⟨cs,rfl,hl,fun i v y a b=> .pure (h i v y a b)⟩
 |agg l cs hl h=>exact⟨cs,rfl,hl,h⟩
theorem VR.mh{l:List SV}(h:VR c A w (.bn l) x): ∃cs:Array Value,x= .tuple cs/\cs.size=l.length/\ ∀(i:Nat) (v:SV) (y:Value),l[i]? =some v->cs[i]? =some y->VR c A w v y:=by
 cases h with
 |pure h=>cases h with|bn l cs hl h=>exact⟨cs,rfl,hl,fun i v y a b=> .pure (h i v y a b)⟩
 |bn l cs hl h=>exact⟨cs,rfl,hl,h⟩
theorem VR.nv{fn:Fn}{a b:List SV}(h:VR c A w (.func fn a b) x): ∃a' b':Array Value,x= .func fn a' b'/\a'.size=a.length/\b'.size=b.length/\
  (∀ (i:Nat) (v:SV) (y:Value),a[i]? =some v->a'[i]? =some y->VR c A w v y)/\(∀ (i:Nat) (v:SV) (y:Value),b[i]? =some v->b'[i]? =some y->VR c A w v y):=by
 cases h with
 |pure h=>cases h with|func fn a b a' b' ha hb h h'=>exact⟨a',b',rfl,ha,hb,fun i v y p q=> .pure (h i v y p q),fun i v y p q=> .pure (h' i v y p q)⟩
 |func fn a b a' b' ha hb h h'=>exact⟨a',b',rfl,ha,hb,h,h'⟩
theorem VR.eK{i g idx sub:Nat}(h:VR c A w (.ref i g idx sub) x){o:ai}(ho:A.obj i=some o)(hg:o.gen=g):x= .pointer (some ⟨c.β i,idx*o.sz+sub,none⟩):=by
 cases h with
 |pure h=>cases h
 |ref i g idx sub x hx hi hg' h=>exact h o ho hg
theorem VR.iS{i g sz off len:Nat}{cap:Option Nat}(h:VR c A w (.sl i g sz off len cap) x){o:ai}(ho:A.obj i=some o)(hg:o.gen=g):
  o.sz=sz/\ ∃a cc,x= .slice (some a) len cc/\len<=cc/\(∀ k,cap=some k->cc=k)/\
    (cc=0\/a=⟨c.β i,off*sz,none⟩/\ ∃ty n,w.shape? (c.β i)=some (ty,n)/\off*sz+cc*sz<=n):=by
 cases h with
 |pure h=>cases h
 |sl i g sz off len cap x hx hi hg' h=>
  obtain⟨h1,a,cc,h2,h3,h4,h5,_⟩:=h o ho hg;exact⟨h1,a,cc,h2,h3,h4,h5⟩
theorem VR.Am{i g sz off len:Nat}(h:VR c A w (.sl i g sz off len none) x){o:ai}(ho:A.obj i=some o)(hg:o.gen=g){a:Option Addr}{l cc:Nat}(hx:x= .slice a l cc):
  ∃ty n,w.shape? (c.β i)=some (ty,n)/\off*sz+cc*sz=n:=by
 cases h with
 |pure h=>cases h
 |sl i g sz off len cap x hx' hi hg' h=>
  obtain⟨h1,a',cc',h2,h3,h4,h5,h6⟩:=h o ho hg;rw[hx]at h2;cases h2
  exact h6 rfl
theorem VR.oh{sz n:Nat}{get:Nat->SV}(h:VR c A w (.aW sz n get) x): ∃a cap,x= .slice a n cap/\n<=cap/\
  (n=0\/ ∃b off C ty fz,a=some ⟨b,off,none⟩/\c.Im b/\w.heap[b]? =some (.cells C ty fz)/\off+n*sz<=C.size/\(∀ i,i<n->(get i).cells.length=sz)/\
   ∀(i j:Nat) (v:SV) (y:Value),i<n->(get i).cells[j]? =some v->C[off+i*sz+j]? =some y->VP c.Im w v y):=by
 cases h with
 |pure h=>
  cases h with
  |pE sz get a cap=>exact⟨a,cap,rfl,Nat.zero_le _,.inl rfl⟩
  |aW sz n get b off cap C ty fz hb hw hn hcap hc h=>exact⟨_,cap,rfl,hcap,.inr ⟨b,off,C,ty,fz,rfl,hb,hw,hn,hc,h⟩⟩
theorem VR.vt{v:SV}{sub:Nat}(h:VR c A w (.kK v sub) x): ∃b o C ty fz,x= .pointer (some ⟨b,o+sub,none⟩)/\c.Im b/\w.heap[b]? =some (.cells C ty fz)/\
  o+v.cells.length<=C.size/\ ∀(j:Nat) (u:SV) (y:Value),v.cells[j]? =some u->C[o+j]? =some y->VP c.Im w u y:=by
 cases h with
 |pure h=>cases h with|kK v sub b o C ty fz hb hw hn h=>exact⟨b,o,C,ty,fz,rfl,hb,hw,hn,h⟩
theorem VR.undef:VR c A w .undef x:= .pure (.undef x)
theorem VR.bool{b:Bool}:VR c A w (.bool b) (.bool b):= .pure (.bool b)
theorem VR.int{k:IntKind}{n:Int}:VR c A w (.int k n) (.int k n):= .pure (.int k n)
theorem VR.str{s:List UInt8}:VR c A w (.str s) (.string ⟨s.toArray⟩):= .pure (.str s)
theorem VR.O5{v:SV}(h:VR c A w v x)(hu:v≠ .undef)(hv: ∀l,v≠ .agg l):x.cells= #[x]:=by
 cases h with
 |pure h=>cases h<;>first|rfl|exact absurd rfl hu|exact absurd rfl (hv _)
 |ref i g idx sub x hx hi hg h=>obtain⟨a,rfl⟩:=hx;rfl
 |sl i g sz off len cap x hx hi hg h=>obtain⟨a,l,c,rfl⟩:=hx;rfl
 |cW i g x hx hi hg h=>obtain⟨r,rfl⟩:=hx;rfl
 |iface t v x h=>rfl
 |agg l cs hl h=>exact absurd rfl (hv _)
 |bn l cs hl h=>rfl
 |func=>rfl
theorem BE: ∀(n:Nat) (v:SV) (x:Value),eB n v=true->VR c A w v x->x=valOf n v
 |0,v,x,hs,_=>by cases hs
 |n+1,v,x,hs,hv=>by
  unfold eB at hs;unfold valOf;split at hs
  ·exact hv.dm
  ·exact hv.bQ
  ·exact hv.eJ
  ·exact hv.iC
  ·exact hv.cF
  ·exact hv.vT
  ·exact hv.kg
  ·exact hv.nq
  ·rename_i l
   obtain⟨cs,rfl,hl,hc⟩:=hv.iJ;show Value.agg cs= .agg (l.map (valOf n)).toArray;congr 1
   apply Array.ext_getElem?
   intro i;rcases Nat.lt_or_ge i l.length with hi|hi
   ·have h1:l[i]? =some l[i]:=List.getElem?_eq_getElem hi
    have h2:cs[i]? =some (cs[i]'(by omega)):=Array.getElem?_eq_getElem _;have:=BE n _ _ (List.all_eq_true.1 hs _ (List.getElem_mem hi)) (hc i _ _ h1 h2);rw[h2,this];simp[h1]
   ·rw[Array.getElem?_eq_none (by omega)]
    simp[hi]
  ·cases hs
theorem ny{Im:Nat->Prop}: ∀(n:Nat) (v:SV),eB n v=true->VP Im w v (valOf n v)
 |0,v,hs=>by cases hs
 |n+1,v,hs=>by
  unfold eB at hs;unfold valOf;split at hs
  ·exact .bool _
  ·exact .int _ _
  ·exact .str _
  ·exact .eM
  ·exact .af
  ·exact .jo
  ·exact .dF
  ·exact .gb
  ·rename_i l
   refine .agg _ _ (by simp) fun i v x h1 h2=> ?_
   simp only[List.getElem?_toArray,List.getElem?_map,h1,Option.map_some,Option.some.injEq]at h2;rw[<- h2];exact ny n v (List.all_eq_true.1 hs v (List.mem_of_getElem? h1))
  ·cases hs
end inv
inductive Lk:SV->SV->Prop
 |refl (v:SV):Lk v v
 |iface (t:TypeId) {v v':SV} (h:Lk v v'):Lk (.iface t v) (.iface t v')
 |agg {l l':List SV} (hl:l.length=l'.length) (h: ∀(i:Nat) (v v':SV),l[i]? =some v->l'[i]? =some v'->Lk v v'):Lk (.agg l) (.agg l')
 |bn {l l':List SV} (hl:l.length=l'.length) (h: ∀(i:Nat) (v v':SV),l[i]? =some v->l'[i]? =some v'->Lk v v'):Lk (.bn l) (.bn l')
 |aW {sz n:Nat} {get get':Nat->SV} (h: ∀j,j<n->Lk (get j) (get' j)):Lk (.aW sz n get) (.aW sz n get')
 |kK (s:Nat) {v v':SV} (h:Lk v v'):Lk (.kK v s) (.kK v' s)
end
end Ab
