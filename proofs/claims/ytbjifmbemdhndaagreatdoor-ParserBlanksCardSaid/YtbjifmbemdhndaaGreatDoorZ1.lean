/- Parts of the proof of PParserBlanks, one behind the other, with short names. -/
import Derived.Calls
import GoSem.PinnedTables
import Derived.Orders
import Derived.Below
set_option linter.unusedVariables false
set_option linter.unusedSimpArgs false
namespace Ab
def eI:Nat->List (Go.IntKind×Int)
 |1=>Go.Pinned.utf8FirstZ.map fun(n:Nat)=>(Go.IntKind.u8,Int.ofNat n)
 |2=>[(.u8,128),(.u8,191),(.u8,160),(.u8,191),(.u8,128),(.u8,159),(.u8,144),(.u8,191),(.u8,128),(.u8,143),(.u8,0),(.u8,0),(.u8,0),(.u8,0),(.u8,0),(.u8,0),(.u8,0),(.u8,0),(.u8,0),(.u8,0),(.u8,0),(.u8,0),(.u8,0),(.u8,0),(.u8,0),(.u8,0),(.u8,0),(.u8,0),(.u8,0),(.u8,0),(.u8,0),(.u8,0)]
 |4=>[(.u8,0),(.u8,0),(.u8,0),(.u8,0),(.u8,0),(.u8,0),(.u8,0),(.u8,0),(.u8,0),(.u8,1),(.u8,1),(.u8,1),(.u8,1),(.u8,1),(.u8,0),(.u8,0),(.u8,0),(.u8,0),(.u8,0),(.u8,0),(.u8,0),(.u8,0),(.u8,0),(.u8,0),(.u8,0),(.u8,0),(.u8,0),(.u8,0),(.u8,0),(.u8,0),(.u8,0),(.u8,0),(.u8,1),(.u8,0),(.u8,0),(.u8,0),(.u8,0),(.u8,0),(.u8,0),(.u8,0),(.u8,0),(.u8,0),(.u8,0),(.u8,0),(.u8,0),(.u8,0),(.u8,0),(.u8,0),(.u8,0),(.u8,0),(.u8,0),(.u8,0),(.u8,0),(.u8,0),(.u8,0),(.u8,0),(.u8,0),(.u8,0),(.u8,0),(.u8,0),(.u8,0),(.u8,0),(.u8,0),(.u8,0),(.u8,0),(.u8,0),(.u8,0),(.u8,0),(.u8,0),(.u8,0),(.u8,0),(.u8,0),(.u8,0),(.u8,0),(.u8,0),(.u8,0),(.u8,0),(.u8,0),(.u8,0),(.u8,0),(.u8,0),(.u8,0),(.u8,0),(.u8,0),(.u8,0),(.u8,0),(.u8,0),(.u8,0),(.u8,0),(.u8,0),(.u8,0),(.u8,0),(.u8,0),(.u8,0),(.u8,0),(.u8,0),(.u8,0),(.u8,0),(.u8,0),(.u8,0),(.u8,0),(.u8,0),(.u8,0),(.u8,0),(.u8,0),(.u8,0),(.u8,0),(.u8,0),(.u8,0),(.u8,0),(.u8,0),(.u8,0),(.u8,0),(.u8,0),(.u8,0),(.u8,0),(.u8,0),(.u8,0),(.u8,0),(.u8,0),(.u8,0),(.u8,0),(.u8,0),(.u8,0),(.u8,0),(.u8,0),(.u8,0),(.u8,0),(.u8,0),(.u8,0),(.u8,0),(.u8,0),(.u8,0),(.u8,0),(.u8,0),(.u8,0),(.u8,0),(.u8,0),(.u8,0),(.u8,0),(.u8,0),(.u8,0),(.u8,0),(.u8,0),(.u8,0),(.u8,0),(.u8,0),(.u8,0),(.u8,0),(.u8,0),(.u8,0),(.u8,0),(.u8,0),(.u8,0),(.u8,0),(.u8,0),(.u8,0),(.u8,0),(.u8,0),(.u8,0),(.u8,0),(.u8,0),(.u8,0),(.u8,0),(.u8,0),(.u8,0),(.u8,0),(.u8,0),(.u8,0),(.u8,0),(.u8,0),(.u8,0),(.u8,0),(.u8,0),(.u8,0),(.u8,0),(.u8,0),(.u8,0),(.u8,0),(.u8,0),(.u8,0),(.u8,0),(.u8,0),(.u8,0),(.u8,0),(.u8,0),(.u8,0),(.u8,0),(.u8,0),(.u8,0),(.u8,0),(.u8,0),(.u8,0),(.u8,0),(.u8,0),(.u8,0),(.u8,0),(.u8,0),(.u8,0),(.u8,0),(.u8,0),(.u8,0),(.u8,0),(.u8,0),(.u8,0),(.u8,0),(.u8,0),(.u8,0),(.u8,0),(.u8,0),(.u8,0),(.u8,0),(.u8,0),(.u8,0),(.u8,0),(.u8,0),(.u8,0),(.u8,0),(.u8,0),(.u8,0),(.u8,0),(.u8,0),(.u8,0),(.u8,0),(.u8,0),(.u8,0),(.u8,0),(.u8,0),(.u8,0),(.u8,0),(.u8,0),(.u8,0),(.u8,0),(.u8,0),(.u8,0),(.u8,0),(.u8,0),(.u8,0),(.u8,0),(.u8,0),(.u8,0),(.u8,0),(.u8,0),(.u8,0),(.u8,0),(.u8,0),(.u8,0),(.u8,0),(.u8,0),(.u8,0),(.u8,0),(.u8,0),(.u8,0),(.u8,0),(.u8,0),(.u8,0)]
 |6=>[(.u64,1),(.u64,10),(.u64,100),(.u64,1000),(.u64,10000),(.u64,100000),(.u64,1000000),(.u64,10000000),(.u64,100000000),(.u64,1000000000),(.u64,10000000000),(.u64,100000000000),(.u64,1000000000000),(.u64,10000000000000),(.u64,100000000000000),(.u64,1000000000000000),(.u64,10000000000000000),(.u64,100000000000000000),(.u64,1000000000000000000),(.u64,10000000000000000000)]
 |_=>[]
def CH:List Nat:=[8]
end Ab
namespace Ab
open Go
section
inductive SV where
 |undef
 |bool (b:Bool)
 |int (k:IntKind) (n:Int)
 |str (s:List UInt8)
 |fq
 |ref (i g idx sub:Nat)
 |mW (v:SV) (sub:Nat)
 |dY (g:Nat)
 |ak
 |dm (sz n:Nat) (get:Nat->SV)
 |sl (i g sz off len:Nat) (cap:Option Nat)
 |func (fn:Fn) (first captured:List SV)
 |jc
 |iface (t:TypeId) (v:SV)
 |dZ
 |agg (l:List SV)
 |bn (l:List SV)
 |fZ
 |dR (i g:Nat)
 deriving Inhabited
structure Sk where
 fE:Bool
 ty:Option TypeId
inductive aG where
 |vec (g sz:Nat) (elems:List SV) (fE:Sk)
 |iter (s:List UInt8) (pos:Nat)
 |map (es:List (SV×SV×Nat)) (clock:Nat)
 |cP (m:SV) (since:Nat) (seen:List Nat) (stepped:Nat)
 |lB (g:Nat) (ty:TypeId) (xs:List SV)
def aG.gen:aG->Nat
 | .vec g _ _ _=>g
 | .iter _ _=>0
 | .map _ _=>0
 | .cP .. =>0
 | .lB g _ _=>g
def aG.sz:aG->Nat
 | .vec _ sz _ _=>sz
 | .iter _ _=>0
 | .map _ _=>0
 | .cP .. =>0
 | .lB .. =>1
structure Heap where
 dB:Nat
 l:List (Nat×aG)
def aV:List (Nat×aG)->Nat->Option aG
 | [],_=>none
 |(s,o)::r,i=>if s=i then some o else aV r i
def Heap.obj(h:Heap)(i:Nat):Option aG:=aV h.l i
def SV.cells:SV->List SV
 | .agg l=>l
 |v=>[v]
inductive VP(Im:Nat->Prop)(w:World):SV->Value->Prop
 |undef (x:Value):VP Im w .undef x
 |bool (b:Bool):VP Im w (.bool b) (.bool b)
 |int (k:IntKind) (n:Int):VP Im w (.int k n) (.int k n)
 |str (s:List UInt8):VP Im w (.str s) (.string ⟨s.toArray⟩)
 |fq:VP Im w .fq (.pointer none)
 |dY (g:Nat):VP Im w (.dY g) (.pointer (some ⟨g,0,none⟩))
 |ak:VP Im w .ak (.slice none 0 0)
 |jc:VP Im w .jc .nilFunc
 |dZ:VP Im w .dZ .nilIface
 |fZ:VP Im w .fZ (.map none)
 |iface (t:TypeId) (v:SV) (x:Value) (h:VP Im w v x):VP Im w (.iface t v) (.iface t x)
 |agg (l:List SV) (cs:Array Value) (hl:cs.size=l.length)
  (h: ∀(i:Nat) (v:SV) (x:Value),l[i]? =some v->cs[i]? =some x->VP Im w v x):VP Im w (.agg l) (.agg cs)
 |bn (l:List SV) (cs:Array Value) (hl:cs.size=l.length)
  (h: ∀(i:Nat) (v:SV) (x:Value),l[i]? =some v->cs[i]? =some x->VP Im w v x):VP Im w (.bn l) (.tuple cs)
 |func (fn:Fn) (a b:List SV) (a' b':Array Value) (ha:a'.size=a.length) (hb:b'.size=b.length)
  (h: ∀(i:Nat) (v:SV) (x:Value),a[i]? =some v->a'[i]? =some x->VP Im w v x)
  (h': ∀(i:Nat) (v:SV) (x:Value),b[i]? =some v->b'[i]? =some x->VP Im w v x):VP Im w (.func fn a b) (.func fn a' b')
 |oO (sz:Nat) (get:Nat->SV) (a:Option Addr) (cap:Nat):VP Im w (.dm sz 0 get) (.slice a 0 cap)
 |dm (sz n:Nat) (get:Nat->SV) (b off cap:Nat) (C:Array Value) (ty:TypeId) (fz:Nat×Nat) (hb:Im b) (hw:w.heap[b]? =some (.cells C ty fz))
  (hn:off+n*sz<=C.size) (hcap:n<=cap) (hc: ∀i,i<n->(get i).cells.length=sz)
  (h: ∀(i j:Nat) (v:SV) (x:Value),i<n->(get i).cells[j]? =some v->C[off+i*sz+j]? =some x->VP Im w v x):
  VP Im w (.dm sz n get) (.slice (some ⟨b,off,none⟩) n cap)
 |mW (v:SV) (sub b o:Nat) (C:Array Value) (ty:TypeId) (fz:Nat×Nat) (hb:Im b) (hw:w.heap[b]? =some (.cells C ty fz))
  (hn:o+v.cells.length<=C.size)
  (h: ∀(j:Nat) (u:SV) (x:Value),v.cells[j]? =some u->C[o+j]? =some x->VP Im w u x):
  VP Im w (.mW v sub) (.pointer (some ⟨b,o+sub,none⟩))
theorem VP.mono{Im Qy:Nat->Prop}{w w':World}(hI: ∀b,Im b->Qy b)(hh: ∀b,Im b->w'.heap[b]? =w.heap[b]?){v:SV}{x:Value}(h:VP Im w v x):VP Qy w' v x:=by
 induction h with
 |undef x=>exact .undef x
 |bool b=>exact .bool b
 |int k n=>exact .int k n
 |str s=>exact .str s
 |fq=>exact .fq
 |dY g=>exact .dY g
 |ak=>exact .ak
 |jc=>exact .jc
 |dZ=>exact .dZ
 |fZ=>exact .fZ
 |iface t v x _ ih=>exact .iface t v x ih
 |agg l cs hl _ ih=>exact .agg l cs hl ih
 |bn l cs hl _ ih=>exact .bn l cs hl ih
 |func fn a b a' b' ha hb _ _ ih y8=>exact .func fn a b a' b' ha hb ih y8
 |oO sz get a cap=>exact .oO sz get a cap
 |dm sz n get b off cap C ty fz hb hw hn hcap hc _ ih=>exact .dm sz n get b off cap C ty fz (hI b hb) ((hh b hb).trans hw) hn hcap hc ih
 |mW v sub b o C ty fz hb hw hn _ ih=>exact .mW v sub b o C ty fz (hI b hb) ((hh b hb).trans hw) hn ih
structure Cx where
 β:Nat->Nat
 Im:Nat->Prop
inductive VR(c:Cx)(A:Heap)(w:World):SV->Value->Prop
 |pure {v:SV} {x:Value} (h:VP c.Im w v x):VR c A w v x
 |ref (i g idx sub:Nat) (x:Value) (hx: ∃a,x= .pointer a) (hi:i<A.dB) (hg: ∀o,A.obj i=some o->g<=o.gen)
  (h: ∀o,A.obj i=some o->o.gen=g->x= .pointer (some ⟨c.β i,idx*o.sz+sub,none⟩)):VR c A w (.ref i g idx sub) x
 |sl (i g sz off len:Nat) (cap:Option Nat) (x:Value) (hx: ∃a l c,x= .slice a l c) (hi:i<A.dB) (hg: ∀o,A.obj i=some o->g<=o.gen)
  (h: ∀o,A.obj i=some o->o.gen=g->o.sz=sz/\ ∃a cc,x= .slice (some a) len cc/\len<=cc/\(∀ k,cap=some k->cc=k)/\
   (cc=0\/a=⟨c.β i,off*sz,none⟩/\ ∃ty n,w.shape? (c.β i)=some (ty,n)/\off*sz+cc*sz<=n)/\
   (cap=none-> ∃ty n,w.shape? (c.β i)=some (ty,n)/\off*sz+cc*sz=n)):VR c A w (.sl i g sz off len cap) x
 |dR (i g:Nat) (x:Value) (hx: ∃r,x= .map r) (hi:i<A.dB) (hg: ∀o,A.obj i=some o->g<=o.gen) (h: ∀o,A.obj i=some o->o.gen=g->x= .map (some (c.β i))):VR c A w (.dR i g) x
 |iface (t:TypeId) (v:SV) (x:Value) (h:VR c A w v x):VR c A w (.iface t v) (.iface t x)
 |agg (l:List SV) (cs:Array Value) (hl:cs.size=l.length)
  (h: ∀(i:Nat) (v:SV) (x:Value),l[i]? =some v->cs[i]? =some x->VR c A w v x):VR c A w (.agg l) (.agg cs)
 |bn (l:List SV) (cs:Array Value) (hl:cs.size=l.length)
  (h: ∀(i:Nat) (v:SV) (x:Value),l[i]? =some v->cs[i]? =some x->VR c A w v x):VR c A w (.bn l) (.tuple cs)
 |func (fn:Fn) (a b:List SV) (a' b':Array Value) (ha:a'.size=a.length) (hb:b'.size=b.length)
  (h: ∀(i:Nat) (v:SV) (x:Value),a[i]? =some v->a'[i]? =some x->VR c A w v x)
  (h': ∀(i:Nat) (v:SV) (x:Value),b[i]? =some v->b'[i]? =some x->VR c A w v x):VR c A w (.func fn a b) (.func fn a' b')
def valOf:Nat->SV->Value
 |0,_=>undef
 |n+1,v=>match v with
  | .bool b=> .bool b
  | .int k m=> .int k m
  | .str s=> .string ⟨s.toArray⟩
  | .fq=> .pointer none
  | .ak=> .slice none 0 0
  | .jc=> .nilFunc
  | .dZ=> .nilIface
  | .fZ=> .map none
  | .agg l=> .agg (l.map (valOf n)).toArray
  |_=>undef
def eP:Nat->SV->Bool
 |0,_=>false
 |n+1,v=>match v with
  | .bool _| .int _ _| .str _| .fq| .ak| .jc| .dZ| .fZ=>true
  | .agg l=>l.all (eP n)
  |_=>false
def dV(e:SV×SV×Nat):MapEntry:=⟨valOf 4 e.1,valOf 4 e.2.1,e.2.2⟩
inductive OR(c:Cx)(A:Heap)(w:World)(b:Nat):aG->Prop
 |vec (g sz:Nat) (elems:List SV) (fE:Sk) (C:Array Value) (ty:TypeId) (fz:Nat×Nat) (hw:w.heap[b]? =some (.cells C ty fz))
  (hle:elems.length*sz<=C.size) (heq:fE.fE=false->elems.length*sz=C.size) (hty: ∀t,fE.ty=some t->t=ty) (hc: ∀v∈elems,v.cells.length=sz)
  (hf: ∀k,k<C.size-> ¬(fz.1<=k/\k<fz.2))
  (h: ∀(i j:Nat) (e v:SV) (x:Value),elems[i]? =some e->e.cells[j]? =some v->C[i*sz+j]? =some x->VR c A w v x):OR c A w b (.vec g sz elems fE)
 |iter (s:List UInt8) (pos:Nat) (hw:w.heap[b]? =some (.stringIter ⟨s.toArray⟩ pos)):OR c A w b (.iter s pos)
 |map (es:List (SV×SV×Nat)) (clock:Nat) (hw:w.heap[b]? =some (.map (es.map dV).toArray clock)) (hs: ∀p∈es,eP 4 p.2.1=true):OR c A w b (.map es clock)
 |cP (m:SV) (since:Nat) (seen:List Nat) (stepped:Nat) (r:Option Nat) (hw:w.heap[b]? =some (.mapIter r since seen.toArray stepped)) (hm:VR c A w m (.map r)):OR c A w b (.cP m since seen stepped)
 |lB (g:Nat) (ty:TypeId) (xs:List SV) (C:Array Value) (fz:Nat×Nat) (hw:w.heap[b]? =some (.cells C ty fz)) (hle:xs.length<=C.size) (hc: ∀(j:Nat) (m:Int),xs[j]? =some (.int .u8 m)->C[j]? =some (.int .u8 m)):OR c A w b (.lB g ty xs)
def s5(g:Nat):Option SV:=match eI g with
 | []=>none
 |l=>some (.agg (l.map fun p=> .int p.1 p.2))
def iz(Im:Nat->Prop)(w:World):Prop:=(∀ g v,s5 g=some v->Im g/\ ∃C ty fz,w.heap[g]? =some (.cells C ty fz)/\v.cells.length=C.size/\
 ∀(j:Nat) (u:SV) (x:Value),v.cells[j]? =some u->C[j]? =some x->VP Im w u x)/\
 ∀g,g∈CH->Im g/\ ∃v ty fz,w.heap[g]? =some (.cells #[v] ty fz)/\(v= .nilIface\/ ∃te pe,v= .iface te pe)
theorem iz.mono{Im Qy:Nat->Prop}{w w':World}(h:iz Im w)(hI: ∀b,Im b->Qy b)(hh: ∀b,Im b->w'.heap[b]? =w.heap[b]?):iz Qy w':=⟨fun g v hg=>by
 obtain⟨h1,C,ty,fz,h2,h3,h4⟩:=h.1 g v hg;exact⟨hI g h1,C,ty,fz,(hh g h1).trans h2,h3,fun j u x hu hx=>(h4 j u x hu hx).mono hI hh⟩,fun g hg=>by
 obtain⟨h1,v,ty,fz,h2,h3⟩:=h.2 g hg;exact⟨hI g h1,v,ty,fz,(hh g h1).trans h2,h3⟩⟩
structure cF(c:Cx)(A:Heap)(w:World):Prop where
 lt: ∀i o,A.obj i=some o->i<A.dB
 obj: ∀i o,A.obj i=some o->OR c A w (c.β i) o
 inj: ∀i j o p,A.obj i=some o->A.obj j=some p->c.β i=c.β j->i=j
 apart: ∀i o,A.obj i=some o-> ¬c.Im (c.β i)
 im: ∀b,c.Im b->b<w.heap.size
 dY:iz c.Im w
structure Ext(c:Cx)(A:Heap)(w:World)(c':Cx)(A':Heap)(w':World):Prop where
 os:w'.os=w.os
 tape:w'.tape=w.tape
 output:w'.output=w.output
 size:w.heap.size<=w'.heap.size
 frame: ∀b,b<w.heap.size->(∀ i o,A.obj i=some o->c.β i≠b)->w'.heap[b]? =w.heap[b]?
 shape: ∀b,b<w.heap.size->w'.shape? b=w.shape? b
 im: ∀b,c.Im b->c'.Im b
 im': ∀b,c'.Im b->c.Im b\/w.heap.size<=b\/ ∃i o,A.obj i=some o/\c.β i=b
 dB:A.dB<=A'.dB
 old: ∀i o',i<A.dB->A'.obj i=some o'-> ∃o,A.obj i=some o/\o.gen<=o'.gen/\o.sz=o'.sz/\(o.gen=o'.gen->c'.β i=c.β i)
 new: ∀i o',A'.obj i=some o'->w.heap.size<=c'.β i\/ ∃o,A.obj i=some o/\c'.β i=c.β i
theorem OR.lt{c:Cx}{A:Heap}{w:World}{b:Nat}{o:aG}(h:OR c A w b o):b<w.heap.size:=by
 have key: ∀x,w.heap[b]? =some x->b<w.heap.size:=fun x hx=>by
  rcases Nat.lt_or_ge b w.heap.size with hlt|hge
  ·exact hlt
  ·rw[Array.getElem?_eq_none hge]at hx;cases hx
 cases h with
 |vec g sz elems fE C ty fz hw=>exact key _ hw
 |iter s pos hw=>exact key _ hw
 |map es clock hw=>exact key _ hw
 |cP m since seen stepped r hw=>exact key _ hw
 |lB g ty xs C fz hw=>exact key _ hw
theorem Ext.refl{c:Cx}{A:Heap}{w:World}:Ext c A w c A w:=
 ⟨rfl,rfl,rfl,Nat.le_refl _,fun _ _ _=>rfl,fun _ _=>rfl,fun _ h=>h,fun _ h=> .inl h,Nat.le_refl _,
  fun _ o' _ h=>⟨o',h,Nat.le_refl _,rfl,fun _=>rfl⟩,fun _ o' h=> .inr ⟨o',h,rfl⟩⟩
theorem Ext.trans{c c' Vy:Cx}{A A' Vz:Heap}{w w' w'':World}(hr:cF c A w)(h:Ext c A w c' A' w')(k:Ext c' A' w' Vy Vz w''):Ext c A w Vy Vz w'' where
 os:=k.os.trans h.os
 tape:=k.tape.trans h.tape
 output:=k.output.trans h.output
 size:=Nat.le_trans h.size k.size
 frame b hb hn:=by
  rw[k.frame b (Nat.lt_of_lt_of_le hb h.size) ?_,h.frame b hb hn];intro i o' ho' he;rcases h.new i o' ho' with hge|⟨o,ho,mI⟩
  ·omega
  ·exact hn i o ho (mI▸he)
 shape b hb:=(k.shape b (Nat.lt_of_lt_of_le hb h.size)).trans (h.shape b hb)
 im b hb:=k.im b (h.im b hb)
 im' b hb:=by
  rcases k.im' b hb with hb|hb|⟨i,o',ho',he⟩
  ·exact h.im' b hb
  ·exact .inr (.inl (Nat.le_trans h.size hb))
  ·rcases h.new i o' ho' with hge|⟨o,ho,mI⟩
   ·exact .inr (.inl (he▸hge))
   ·exact .inr (.inr ⟨i,o,ho,mI▸he⟩)
 dB:=Nat.le_trans h.dB k.dB
 old i uY hi y9:=by
  obtain⟨o',ho',hg,hs,mI⟩:=k.old i uY (Nat.lt_of_lt_of_le hi h.dB) y9;obtain⟨o,ho,hg',hs',CI⟩:=h.old i o' hi ho';exact⟨o,ho,Nat.le_trans hg' hg,hs'.trans hs,fun e=>by rw[mI (by omega),CI (by omega)]⟩
 new i uY y9:=by
  rcases k.new i uY y9 with hge|⟨o',ho',mI⟩
  ·exact .inl (Nat.le_trans h.size hge)
  ·rcases h.new i o' ho' with hge|⟨o,ho,CI⟩
   ·exact .inl (mI▸hge)
   ·exact .inr ⟨o,ho,mI.trans CI⟩
theorem Ext.Hq{c c':Cx}{A A':Heap}{w w':World}(hr:cF c A w)(h:Ext c A w c' A' w')(b:Nat)(hb:c.Im b):w'.heap[b]? =w.heap[b]? :=
 h.frame b (hr.im b hb) fun i o ho he=>hr.apart i o ho (he▸hb)
theorem cF.oP{c c':Cx}{A A':Heap}{w w':World}(hr:cF c A w)(h:Ext c A w c' A' w'):iz c'.Im w':=hr.dY.mono h.im fun b hb=>h.Hq hr b hb
theorem VR.mono{c c':Cx}{A A':Heap}{w w':World}(hr:cF c A w)(he:Ext c A w c' A' w'){v:SV}{x:Value}(h:VR c A w v x):VR c' A' w' v x:=by
 induction h with
 |pure h=>exact .pure (h.mono he.im (he.Hq hr))
 |ref i g idx sub x hx hi hg h=>
  refine .ref i g idx sub x hx (Nat.lt_of_lt_of_le hi he.dB) (fun o' ho'=> ?_) fun o' ho' hgo=> ?_
  ·obtain⟨o,ho,hg',_,_⟩:=he.old i o' hi ho'
   exact Nat.le_trans (hg o ho) hg'
  ·obtain⟨o,ho,hg',hs,mI⟩:=he.old i o' hi ho'
   have Hr:o.gen=g:=by have:=hg o ho;omega
   rw[h o ho Hr,hs,mI (by omega)]
 |sl i g sz off len cap x hx hi hg h=>
  refine .sl i g sz off len cap x hx (Nat.lt_of_lt_of_le hi he.dB) (fun o' ho'=> ?_) fun o' ho' hgo=> ?_
  ·obtain⟨o,ho,hg',_,_⟩:=he.old i o' hi ho'
   exact Nat.le_trans (hg o ho) hg'
  ·obtain⟨o,ho,hg',hs,mI⟩:=he.old i o' hi ho'
   have Hr:o.gen=g:=by have:=hg o ho;omega
   obtain⟨hsz,a,cc,hx,hl,hk,ja,ET⟩:=h o ho Hr;have CI:=mI (by omega);refine⟨hs.symm.trans hsz,a,cc,hx,hl,hk,ja.imp id ?_,fun hc=> ?_⟩
   ·rintro⟨ha,ty,n,hsh,hle⟩
    refine⟨by rw[ha,CI],ty,n,?_,hle⟩;rw[CI,he.shape _ (hr.obj i o ho).lt,hsh]
   ·obtain⟨ty,n,hsh,hle⟩:=ET hc
    exact⟨ty,n,by rw[CI,he.shape _ (hr.obj i o ho).lt,hsh],hle⟩
 |dR i g x hx hi hg h=>
  refine .dR i g x hx (Nat.lt_of_lt_of_le hi he.dB) (fun o' ho'=> ?_) fun o' ho' hgo=> ?_
  ·obtain⟨o,ho,hg',_,_⟩:=he.old i o' hi ho'
   exact Nat.le_trans (hg o ho) hg'
  ·obtain⟨o,ho,hg',hs,mI⟩:=he.old i o' hi ho'
   have Hr:o.gen=g:=by have:=hg o ho;omega
   rw[h o ho Hr,mI (by omega)]
 |iface t v x _ ih=>exact .iface t v x ih
 |agg l cs hl _ ih=>exact .agg l cs hl ih
 |bn l cs hl _ ih=>exact .bn l cs hl ih
 |func fn a b a' b' ha hb _ _ ih y8=>exact .func fn a b a' b' ha hb ih y8
section inv
variable {c:Cx} {A:Heap} {w:World} {x:Value}
theorem VR.dG{b:Bool}(h:VR c A w (.bool b) x):x= .bool b:=by cases h with|pure h=>cases h;rfl
theorem VR.bY{k:IntKind}{n:Int}(h:VR c A w (.int k n) x):x= .int k n:=by cases h with|pure h=>cases h;rfl
theorem VR.eU{s:List UInt8}(h:VR c A w (.str s) x):x= .string ⟨s.toArray⟩:=by cases h with|pure h=>cases h;rfl
theorem VR.hO(h:VR c A w .fq x):x= .pointer none:=by cases h with|pure h=>cases h;rfl
theorem VR.mX{g:Nat}(h:VR c A w (.dY g) x):x= .pointer (some ⟨g,0,none⟩):=by cases h with|pure h=>cases h;rfl
theorem VR.cX(h:VR c A w .ak x):x= .slice none 0 0:=by cases h with|pure h=>cases h;rfl
theorem VR.vu(h:VR c A w .jc x):x= .nilFunc:=by cases h with|pure h=>cases h;rfl
theorem VR.ki(h:VR c A w .dZ x):x= .nilIface:=by cases h with|pure h=>cases h;rfl
theorem VR.mY(h:VR c A w .fZ x):x= .map none:=by cases h with|pure h=>cases h;rfl
theorem VR.mZ{i g:Nat}(h:VR c A w (.dR i g) x){o:aG}(ho:A.obj i=some o)(hg:o.gen=g):x= .map (some (c.β i)):=by
 cases h with
 |pure h=>cases h
 |dR i g x hx hi hg' h=>exact h o ho hg
theorem VR.gF{t:TypeId}{v:SV}(h:VR c A w (.iface t v) x): ∃y,x= .iface t y/\VR c A w v y:=by
 cases h with
 |pure h=>cases h with|iface t v x h=>exact⟨_,rfl,.pure h⟩
 |iface t v x h=>exact⟨_,rfl,h⟩
theorem VR.iy{l:List SV}(h:VR c A w (.agg l) x): ∃cs:Array Value,x= .agg cs/\cs.size=l.length/\ ∀(i:Nat) (v:SV) (y:Value),l[i]? =some v->cs[i]? =some y->VR c A w v y:=by
 cases h with
 |pure h=>cases h with|agg l cs hl h=>exact⟨cs,rfl,hl,fun i v y a b=> .pure (h i v y a b)⟩
 |agg l cs hl h=>exact⟨cs,rfl,hl,h⟩
theorem VR.mj{l:List SV}(h:VR c A w (.bn l) x): ∃cs:Array Value,x= .tuple cs/\cs.size=l.length/\ ∀(i:Nat) (v:SV) (y:Value),l[i]? =some v->cs[i]? =some y->VR c A w v y:=by
 cases h with
 |pure h=>cases h with|bn l cs hl h=>exact⟨cs,rfl,hl,fun i v y a b=> .pure (h i v y a b)⟩
 |bn l cs hl h=>exact⟨cs,rfl,hl,h⟩
theorem VR.oQ{fn:Fn}{a b:List SV}(h:VR c A w (.func fn a b) x): ∃a' b':Array Value,x= .func fn a' b'/\a'.size=a.length/\b'.size=b.length/\
  (∀ (i:Nat) (v:SV) (y:Value),a[i]? =some v->a'[i]? =some y->VR c A w v y)/\(∀ (i:Nat) (v:SV) (y:Value),b[i]? =some v->b'[i]? =some y->VR c A w v y):=by
 cases h with
 |pure h=>cases h with|func fn a b a' b' ha hb h h'=>exact⟨a',b',rfl,ha,hb,fun i v y p q=> .pure (h i v y p q),fun i v y p q=> .pure (h' i v y p q)⟩
 |func fn a b a' b' ha hb h h'=>exact⟨a',b',rfl,ha,hb,h,h'⟩
theorem VR.eV{i g idx sub:Nat}(h:VR c A w (.ref i g idx sub) x){o:aG}(ho:A.obj i=some o)(hg:o.gen=g):x= .pointer (some ⟨c.β i,idx*o.sz+sub,none⟩):=by
 cases h with
 |pure h=>cases h
 |ref i g idx sub x hx hi hg' h=>exact h o ho hg
theorem VR.iH{i g sz off len:Nat}{cap:Option Nat}(h:VR c A w (.sl i g sz off len cap) x){o:aG}(ho:A.obj i=some o)(hg:o.gen=g):
  o.sz=sz/\ ∃a cc,x= .slice (some a) len cc/\len<=cc/\(∀ k,cap=some k->cc=k)/\
    (cc=0\/a=⟨c.β i,off*sz,none⟩/\ ∃ty n,w.shape? (c.β i)=some (ty,n)/\off*sz+cc*sz<=n):=by
 cases h with
 |pure h=>cases h
 |sl i g sz off len cap x hx hi hg' h=>
  obtain⟨h1,a,cc,h2,h3,h4,h5,_⟩:=h o ho hg;exact⟨h1,a,cc,h2,h3,h4,h5⟩
theorem VR.za{i g sz off len:Nat}(h:VR c A w (.sl i g sz off len none) x){o:aG}(ho:A.obj i=some o)(hg:o.gen=g){a:Option Addr}{l cc:Nat}(hx:x= .slice a l cc):
  ∃ty n,w.shape? (c.β i)=some (ty,n)/\off*sz+cc*sz=n:=by
 cases h with
 |pure h=>cases h
 |sl i g sz off len cap x hx' hi hg' h=>
  obtain⟨h1,a',YQ,h2,h3,h4,h5,h6⟩:=h o ho hg;rw[hx]at h2;cases h2
  exact h6 rfl
theorem VR.nP{sz n:Nat}{get:Nat->SV}(h:VR c A w (.dm sz n get) x): ∃a cap,x= .slice a n cap/\n<=cap/\
  (n=0\/ ∃b off C ty fz,a=some ⟨b,off,none⟩/\c.Im b/\w.heap[b]? =some (.cells C ty fz)/\off+n*sz<=C.size/\(∀ i,i<n->(get i).cells.length=sz)/\
   ∀(i j:Nat) (v:SV) (y:Value),i<n->(get i).cells[j]? =some v->C[off+i*sz+j]? =some y->VP c.Im w v y):=by
 cases h with
 |pure h=>
  cases h with
  |oO sz get a cap=>exact⟨a,cap,rfl,Nat.zero_le _,.inl rfl⟩
  |dm sz n get b off cap C ty fz hb hw hn hcap hc h=>exact⟨_,cap,rfl,hcap,.inr ⟨b,off,C,ty,fz,rfl,hb,hw,hn,hc,h⟩⟩
theorem VR.uZ{v:SV}{sub:Nat}(h:VR c A w (.mW v sub) x): ∃b o C ty fz,x= .pointer (some ⟨b,o+sub,none⟩)/\c.Im b/\w.heap[b]? =some (.cells C ty fz)/\
  o+v.cells.length<=C.size/\ ∀(j:Nat) (u:SV) (y:Value),v.cells[j]? =some u->C[o+j]? =some y->VP c.Im w u y:=by
 cases h with
 |pure h=>cases h with|mW v sub b o C ty fz hb hw hn h=>exact⟨b,o,C,ty,fz,rfl,hb,hw,hn,h⟩
theorem VR.undef:VR c A w .undef x:= .pure (.undef x)
theorem VR.bool{b:Bool}:VR c A w (.bool b) (.bool b):= .pure (.bool b)
theorem VR.int{k:IntKind}{n:Int}:VR c A w (.int k n) (.int k n):= .pure (.int k n)
theorem VR.str{s:List UInt8}:VR c A w (.str s) (.string ⟨s.toArray⟩):= .pure (.str s)
theorem VR.Ln{v:SV}(h:VR c A w v x)(hu:v≠ .undef)(hv: ∀l,v≠ .agg l):x.cells= #[x]:=by
 cases h with
 |pure h=>cases h<;>first|rfl|exact absurd rfl hu|exact absurd rfl (hv _)
 |ref i g idx sub x hx hi hg h=>obtain⟨a,rfl⟩:=hx;rfl
 |sl i g sz off len cap x hx hi hg h=>obtain⟨a,l,c,rfl⟩:=hx;rfl
 |dR i g x hx hi hg h=>obtain⟨r,rfl⟩:=hx;rfl
 |iface t v x h=>rfl
 |agg l cs hl h=>exact absurd rfl (hv _)
 |bn l cs hl h=>rfl
 |func=>rfl
theorem Aq: ∀(n:Nat) (v:SV) (x:Value),eP n v=true->VR c A w v x->x=valOf n v
 |0,v,x,hs,_=>by cases hs
 |n+1,v,x,hs,hv=>by
  unfold eP at hs;unfold valOf;split at hs
  ·exact hv.dG
  ·exact hv.bY
  ·exact hv.eU
  ·exact hv.hO
  ·exact hv.cX
  ·exact hv.vu
  ·exact hv.ki
  ·exact hv.mY
  ·rename_i l
   obtain⟨cs,rfl,hl,hc⟩:=hv.iy;show Value.agg cs= .agg (l.map (valOf n)).toArray;congr 1
   apply Array.ext_getElem?
   intro i;rcases Nat.lt_or_ge i l.length with hi|hi
   ·have h1:l[i]? =some l[i]:=List.getElem?_eq_getElem hi
    have h2:cs[i]? =some (cs[i]'(by omega)):=Array.getElem?_eq_getElem _;have:=Aq n _ _ (List.all_eq_true.1 hs _ (List.getElem_mem hi)) (hc i _ _ h1 h2);rw[h2,this];simp[h1]
   ·rw[Array.getElem?_eq_none (by omega)]
    simp[hi]
  ·cases hs
theorem nc{Im:Nat->Prop}: ∀(n:Nat) (v:SV),eP n v=true->VP Im w v (valOf n v)
 |0,v,hs=>by cases hs
 |n+1,v,hs=>by
  unfold eP at hs;unfold valOf;split at hs
  ·exact .bool _
  ·exact .int _ _
  ·exact .str _
  ·exact .fq
  ·exact .ak
  ·exact .jc
  ·exact .dZ
  ·exact .fZ
  ·rename_i l
   refine .agg _ _ (by simp) fun i v x h1 h2=> ?_
   simp only[List.getElem?_toArray,List.getElem?_map,h1,Option.map_some,Option.some.injEq]at h2;rw[<- h2];exact nc n v (List.all_eq_true.1 hs v (List.mem_of_getElem? h1))
  ·cases hs
end inv
inductive Lk:SV->SV->Prop
 |refl (v:SV):Lk v v
 |iface (t:TypeId) {v v':SV} (h:Lk v v'):Lk (.iface t v) (.iface t v')
 |agg {l l':List SV} (hl:l.length=l'.length) (h: ∀(i:Nat) (v v':SV),l[i]? =some v->l'[i]? =some v'->Lk v v'):Lk (.agg l) (.agg l')
 |bn {l l':List SV} (hl:l.length=l'.length) (h: ∀(i:Nat) (v v':SV),l[i]? =some v->l'[i]? =some v'->Lk v v'):Lk (.bn l) (.bn l')
 |dm {sz n:Nat} {get get':Nat->SV} (h: ∀j,j<n->Lk (get j) (get' j)):Lk (.dm sz n get) (.dm sz n get')
 |mW (s:Nat) {v v':SV} (h:Lk v v'):Lk (.mW v s) (.mW v' s)
end
end Ab
