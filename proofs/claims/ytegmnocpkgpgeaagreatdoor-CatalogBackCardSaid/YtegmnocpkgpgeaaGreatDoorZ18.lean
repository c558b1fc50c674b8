/- Parts of the proof of PCatalogBack, one behind the other, with short names. -/
import Derived.Test.YtegmnocpkgpgeaaGreatDoorZ17
import Derived.ProofKit
import Derived.OpenShut
import Derived.Carry
set_option linter.unusedVariables false
set_option linter.unusedSimpArgs false
namespace Ab
open Go
inductive aL:SV->Prop
 |undef:aL .undef
 |bool (b:Bool):aL (.bool b)
 |int (k:IntKind) (n:Int):aL (.int k n)
 |str (s:List UInt8):aL (.str s)
 |eM:aL .eM
 |kK (v:SV) (sub:Nat):aL (.kK v sub)
 |dj (g:Nat):aL (.dj g)
 |af:aL .af
 |aW (sz n:Nat) (get:Nat->SV):aL (.aW sz n get)
 |jo:aL .jo
 |dF:aL .dF
 |gb:aL .gb
 |iface (t:TypeId) {v:SV} (h:aL v):aL (.iface t v)
 |agg {l:List SV} (h: ∀v∈l,aL v):aL (.agg l)
 |bn {l:List SV} (h: ∀v∈l,aL v):aL (.bn l)
 |func (fn:Fn) {a b:List SV} (h: ∀v∈a,aL v) (h': ∀v∈b,aL v):aL (.func fn a b)
theorem aL.vp{v:SV}(hl:aL v): ∀ {c:Cx} {h:Heap} {w:World} {x:Value},VR c h w v x->VP c.Im w v x:=by
 induction hl with
 |iface t _ ih=>intro c h w x hv;obtain⟨y,rfl,hy⟩:=hv.gW;exact .iface _ _ _ (ih hy)
 |agg _ ih=>intro c h w x hv;obtain⟨cs,rfl,h1,h2⟩:=hv.iJ;exact .agg _ _ h1 fun i v x a b=>ih v (List.mem_of_getElem? a) (h2 i v x a b)
 |bn _ ih=>intro c h w x hv;obtain⟨cs,rfl,h1,h2⟩:=hv.mh;exact .bn _ _ h1 fun i v x a b=>ih v (List.mem_of_getElem? a) (h2 i v x a b)
 |func fn _ _ ih Ak=>intro c h w x hv;obtain⟨a',b',rfl,h1,h2,h3,h4⟩:=hv.nv;exact .func _ _ _ _ _ h1 h2 (fun i v x a b=>ih v (List.mem_of_getElem? a) (h3 i v x a b)) fun i v x a b=>Ak v (List.mem_of_getElem? a) (h4 i v x a b)
 |_=>intro c h w x hv;cases hv with|pure hv=>exact hv
inductive bA(A:Heap):SV->SV->Prop
 |row {sz n:Nat} {get get':Nat->SV} (h: ∀j,j<n->Lk (get' j) (get j)):bA A (.aW sz n get) (.aW sz n get')
 |nil {sz:Nat} {get:Nat->SV}:bA A .af (.aW sz 0 get)
 |lit {v:SV} (h:aL v):bA A v v
 |iface (t:TypeId) {v v':SV} (h:bA A v v'):bA A (.iface t v) (.iface t v')
 |agg {l l':List SV} (hl:l.length=l'.length) (h: ∀(i:Nat) (v v':SV),l[i]? =some v->l'[i]? =some v'->bA A v v'):bA A (.agg l) (.agg l')
 |bn {l l':List SV} (hl:l.length=l'.length) (h: ∀(i:Nat) (v v':SV),l[i]? =some v->l'[i]? =some v'->bA A v v'):bA A (.bn l) (.bn l')
 |sl {i g sz off len:Nat} {cap:Option Nat} {elems:List SV} {sk:Sk} {get:Nat->SV} (ho:A.obj i=some (.vec g sz elems sk)) (hle:off+len<=elems.length)
  (h: ∀(j:Nat) (v:SV),j<len->elems[off+j]? =some v->bA A v (get j)):bA A (.sl i g sz off len cap) (.aW sz len get)
 |same {sz n:Nat} {get get':Nat->SV} (h: ∀j,j<n->get j=get' j):bA A (.aW sz n get) (.aW sz n get')
 |ref {i g idx sub sz:Nat} {elems:List SV} {sk:Sk} {v v':SV} (ho:A.obj i=some (.vec g sz elems sk)) (hi:elems[idx]? =some v) (h:bA A v v'):bA A (.ref i g idx sub) (.kK v' sub)
theorem bA.cells{A:Heap}{v v':SV}(h:bA A v v'):v'.cells.length=v.cells.length/\ ∀(j:Nat) (u u':SV),v.cells[j]? =some u->v'.cells[j]? =some u'->bA A u u':=by
 have one: ∀ {v v':SV},bA A v v'->v.cells=[v]->v'.cells=[v']->v'.cells.length=v.cells.length/\ ∀(j:Nat) (u u':SV),v.cells[j]? =some u->v'.cells[j]? =some u'->bA A u u':=by
  intro v v' h h1 h2;rw[h1,h2];refine⟨rfl,fun j u u' hu rK=> ?_⟩;cases j with
  |zero=>simp at hu rK;subst hu;subst rK;exact h
  |succ j=>simp at hu
 cases h with
 |lit hl=>
  refine⟨rfl,fun j u u' hu rK=> ?_⟩;rw[hu]at rK;cases rK
  cases hl with
  |agg hh=>exact .lit (hh u (List.mem_of_getElem? hu))
  |_=>cases j with
   |zero=>simp only[SV.cells,List.getElem?_cons_zero,Option.some.injEq]at hu;subst hu;exact .lit (by constructor<;>assumption)
   |succ j=>simp[SV.cells]at hu
 |iface t h=>exact one (.iface t h) rfl rfl
 |agg hl h=>exact⟨hl.symm,h⟩
 |bn hl h=>exact one (.bn hl h) rfl rfl
 |sl ho hle h=>exact one (.sl ho hle h) rfl rfl
 |same h=>exact one (.same h) rfl rfl
 |row h=>exact one (.row h) rfl rfl
 |nil=>exact one .nil rfl rfl
 |ref ho hi h=>exact one (.ref ho hi h) rfl rfl
theorem Gv{A:Heap}{c:Cx}{w:World}{Im:Nat->Prop}{v v':SV}{C:Array Value}{base:Nat}(hh:bA A v v')(ih: ∀ {x:Value},VR c A w v x->VP Im w v' x)
  (hcell: ∀(p:Nat) (u:SV) (y:Value),v.cells[p]? =some u->C[base+p]? =some y->VR c A w u y)(hs:base+v.cells.length<=C.size){p:Nat}{u:SV}{y:Value}(hu:v'.cells[p]? =some u)(hy:C[base+p]? =some y):VP Im w u y:=by
 by_cases mP: ∃l,v= .agg l
 ·obtain⟨l,rfl⟩:=mP
  have hp:p<l.length:=by
   have:v'.cells.length=l.length:=hh.cells.1;rcases Nat.lt_or_ge p l.length with h|h
   ·exact h
   ·rw[List.getElem?_eq_none (by omega)]at hu;cases hu
  refine VP.cells (ih (x:= .agg (C.extract base (base+l.length))) (.agg _ _ ?_ fun i v x a b=> ?_)) hu ?_
  ·simp only[SV.cells]at hs
   simp;omega
  ·have hi:i<l.length:=by
    rcases Nat.lt_or_ge i l.length with h|h
    ·exact h
    ·rw[List.getElem?_eq_none h]at a;cases a
   rw[Array.getElem?_extract]at b;split at b
   ·exact hcell i v x a b
   ·cases b
  ·simp only[Value.cells,Array.getElem?_extract]
   simp only[SV.cells]at hs;rw[if_pos (by omega)];exact hy
 ·have h1:v.cells=[v]:=by cases v<;>first|rfl|exact absurd ⟨_,rfl⟩ mP
  have hp:p=0:=by
   have:=hh.cells.1;rw[h1]at this;rcases Nat.eq_zero_or_pos p with h|h
   ·exact h
   ·rw[List.getElem?_eq_none (by simp at this;omega)]at hu;cases hu
  subst hp;have hv:=hcell 0 v y (by rw[h1];rfl) hy;by_cases hun:v= .undef
  ·subst hun
   cases hh with
   |lit hl=>simp only[SV.cells,List.getElem?_cons_zero,Option.some.injEq]at hu;subst hu;exact .undef _
  ·refine VP.cells (ih hv) hu ?_
   rw[hv.O5 hun (fun l hl=>mP ⟨l,hl⟩)];rfl
theorem bA.vp{A:Heap}{c:Cx}{w:World}(hr:bT c A w){Im:Nat->Prop}(hI: ∀b,c.Im b->Im b)(hB: ∀i o,A.obj i=some o->Im (c.β i)){v v':SV}(hh:bA A v v'): ∀ {x:Value},VR c A w v x->VP Im w v' x:=by
 induction hh with
 |lit h=>intro x hv;exact(h.vp hv).mono hI (fun _ _=>rfl)
 |iface t _ ih=>intro x hv;obtain⟨y,rfl,hy⟩:=hv.gW;exact .iface _ _ _ (ih hy)
 |agg hl _ ih=>
  rename_i l l' _;intro x hv;obtain⟨cs,rfl,h1,h2⟩:=hv.iJ;refine .agg _ _ (h1.trans hl) fun i v x a b=> ?_
  have hi:i<l.length:=by
   rw[hl];rcases Nat.lt_or_ge i l'.length with h|h
   ·exact h
   ·rw[List.getElem?_eq_none h]at a;cases a
  exact ih i _ v (List.getElem?_eq_getElem hi) a (h2 i _ x (List.getElem?_eq_getElem hi) b)
 |bn hl _ ih=>
  rename_i l l' _;intro x hv;obtain⟨cs,rfl,h1,h2⟩:=hv.mh;refine .bn _ _ (h1.trans hl) fun i v x a b=> ?_
  have hi:i<l.length:=by
   rw[hl];rcases Nat.lt_or_ge i l'.length with h|h
   ·exact h
   ·rw[List.getElem?_eq_none h]at a;cases a
  exact ih i _ v (List.getElem?_eq_getElem hi) a (h2 i _ x (List.getElem?_eq_getElem hi) b)
 |sl ho hle lQ ih=>
  rename_i i g sz off len cap elems sk get;intro x hv;obtain⟨_,ad,cc,rfl,hlc,_,jn⟩:=hv.iS ho rfl;by_cases hz:len=0
  ·subst hz;exact .pE _ _ _ _
  ·rcases jn with h0|⟨rfl,ty,n,hsh,TA⟩
   ·omega
   ·cases hr.obj i _ ho with
    |vec _ _ _ _ C ty fz hw aae heq hty hc hf hcell=>
     have hel: ∀j,j<len-> ∃v,elems[off+j]? =some v/\v.cells.length=sz/\(get j).cells.length=sz:=fun j hj=>by
      have hv:elems[off+j]? =some elems[off+j]:=List.getElem?_eq_getElem (by omega);have h1:=hc _ (List.mem_of_getElem? hv);exact⟨_,hv,h1,by rw[(lQ j _ hj hv).cells.1];exact h1⟩
     refine .aW sz len get _ (off*sz) cc C ty fz (hB i _ ho) hw ?_ hlc (fun j hj=>(hel j hj).choose_spec.2.2) fun j p u y hj hu hy=> ?_
     ·have:(off+len)*sz<=elems.length*sz:=Nat.mul_le_mul_right _ hle
      rw[Nat.add_mul]at this;omega
     ·obtain⟨v,XU,hvl,Pa⟩:=hel j hj
      have Nr:(off+j+1)*sz<=elems.length*sz:=Nat.mul_le_mul_right _ (by omega);rw[Nat.succ_mul,Nat.add_mul]at Nr;refine Gv (base:=off*sz+j*sz) (lQ j v hj XU) (ih j v hj XU) (fun p' u' y' rK hy'=>hcell (off+j) p' v u' y' XU rK (by rw[Nat.add_mul];exact hy')) (by rw[hvl];omega) hu hy
 |row hrow=>
  intro x hv;cases hv with
  |pure hp=>exact((Lk.aW hrow).vp hp).mono hI (fun _ _=>rfl)
 |nil=>intro x hv;rw[hv.cF];exact .pE _ _ _ _
 |same hsame=>
  rename_i sz n get get';intro x hv;cases hv with
  |pure hp=>
   cases hp with
   |pE=>exact .pE _ _ _ _
   |aW _ _ _ b off cap C ty fz hb hw hn hcap hc h=>
    exact .aW sz n get' b off cap C ty fz (hI b hb) hw hn hcap (fun i hi=>by rw[<- hsame i hi];exact hc i hi) fun i j v x hi hv hx=>(h i j v x hi (by rw[hsame i hi];exact hv) hx).mono hI fun _ _=>rfl
 |ref ho hi lQ ih=>
  rename_i i g idx sub sz elems sk v v';intro x hv;have hx:=hv.eK ho rfl;subst hx;cases hr.obj i _ ho with
  |vec _ _ _ _ C ty fz hw hle heq hty hc hf hcell=>
   have hvl:=hc _ (List.mem_of_getElem? hi)
   have hidx:idx<elems.length:=by
    rcases Nat.lt_or_ge idx elems.length with h|h
    ·exact h
    ·rw[List.getElem?_eq_none h]at hi;cases hi
   have Nr:(idx+1)*sz<=elems.length*sz:=Nat.mul_le_mul_right _ hidx;rw[Nat.succ_mul]at Nr;refine .kK v' sub _ (idx*sz) C ty fz (hB i _ ho) hw (by rw[lQ.cells.1,hvl];omega) fun p u y hu hy=> ?_
   exact Gv (base:=idx*sz) lQ ih (fun p' u' y' rK hy'=>hcell idx p' v u' y' hi rK hy') (by rw[hvl];omega) hu hy
def aj(P:Program)(f:FuncId)(args:List SV)(v:SV):Prop:=(∀ a∈args,aL a)/\aC P f args ⟨0,[]⟩ fun r h'=> ∃v',r= .ret v'/\bA h' v' v
theorem aG{P:Program}{f:FuncId}{args:List SV}{v:SV}(hargs: ∀a∈args,aL a)(hp:aC P f args ⟨0,[]⟩ fun r h'=> ∃v',r= .ret v'/\bA h' v' v):aj P f args v:=⟨hargs,hp⟩
theorem aj.run{P:Program}{f:FuncId}{args:List SV}{v:SV}(XV:aj P f args v)(h:Heap):aC P f args h fun r h'=>r= .ret v/\h'=h:=by
 obtain⟨hargs,hp⟩:=XV;refine⟨fun c w xs hr hs hv=> ?_⟩;have zh:bT c ⟨0,[]⟩ w:=⟨(fun i o ho=>by cases ho),(fun i o ho=>by cases ho),(fun i j o p ho=>by cases ho),(fun i o ho=>by cases ho),hr.im,hr.dj⟩;refine(hp.calls c w xs zh hs fun i u x hu hx=> .pure ((hargs u (List.mem_of_getElem? hu)).vp (hv i u x hu hx))).mono fun en w' hpost=> ?_
 obtain⟨c',h',r,⟨v',rfl,lQ⟩,hr',hx',x,rfl,mQ⟩:=hpost;have hfr: ∀b,b<w.heap.size->w'.heap[b]? =w.heap[b]? :=fun b hb=>hx'.frame b hb fun i o ho=>by cases ho
 have hnew: ∀i o,h'.obj i=some o->w.heap.size<=c'.β i:=fun i o ho=>by
  rcases hx'.new i o ho with h|⟨o',ho',_⟩
  ·exact h
  ·cases ho'
 let c2:Cx:=⟨c.β,fun b=>c'.Im b\/ ∃i o,h'.obj i=some o/\c'.β i=b⟩
 have tv: ∀b,c2.Im b->c.Im b\/w.heap.size<=b:=by
  rintro b (hb|⟨i,o,ho,rfl⟩)
  ·rcases hx'.im' b hb with hb|hb|⟨i,o,ho,_⟩
   ·exact .inl hb
   ·exact .inr hb
   ·cases ho
  ·exact .inr (hnew i o ho)
 have kA:Ext c h w c2 h w':=⟨hx'.os,hx'.tape,hx'.output,hx'.size,fun b hb _=>hfr b hb,hx'.shape,fun b hb=> .inl (hx'.im b hb),fun b hb=>(tv b hb).imp id .inl,Nat.le_refl _,
  fun i o _ ho=>⟨o,ho,Nat.le_refl _,rfl,fun _=>rfl⟩,fun i o ho=> .inr ⟨o,ho,rfl⟩⟩
 refine⟨c2,h,.ret v,⟨rfl,rfl⟩,⟨hr.lt,fun i o ho=>(hr.obj i o ho).mono hr kA (hfr _ (hr.obj i o ho).lt),hr.inj,fun i o ho hb=> ?_,fun b hb=> ?_,hr.nj kA⟩,kA,x,rfl,.pure (lQ.vp hr' (fun b hb=> .inl hb) (fun i o ho=> .inr ⟨i,o,ho,rfl⟩) mQ)⟩
 ·rcases tv _ hb with h1|h1
  ·exact hr.apart i o ho h1
  ·have:=(hr.obj i o ho).lt
   have e:c2.β i=c.β i:=rfl;omega
 ·rcases hb with hb|⟨i,o,ho,rfl⟩
  ·exact hr'.im b hb
  ·exact(hr'.obj i o ho).lt
theorem aj.call{P:Program}{f:FuncId}{args:List SV}{v:SV}(hp:aj P f args v){h:Heap}{R:bu->Heap->Prop}(hR:R (.ret v) h):aC P f args h R:=
 (hp.run h).mono fun r h' ⟨h1,h2⟩=>by subst h1;subst h2;exact hR
theorem leaf{h:Heap}{v v':SV}(he:v=v')(hl:aL v'): ∃u,bu.ret v= .ret u/\bA h u v':=⟨v',by rw[he],.lit hl⟩
theorem tT{a b:SV}(ha:aL a)(hb:aL b):aL (.bn [a,b]):= .bn (by simp only[List.mem_cons,List.not_mem_nil,or_false];rintro _ (rfl|rfl);exact ha;exact hb)
theorem di{a:SV}(ha:aL a): ∀x∈[a],aL x:=by simp only[List.mem_singleton];rintro _ rfl;exact ha
theorem cP{a b:SV}(ha:aL a)(hb:aL b): ∀x∈[a,b],aL x:=by simp only[List.mem_cons,List.not_mem_nil,or_false];rintro _ (rfl|rfl);exact ha;exact hb
theorem pY{a b c:SV}(ha:aL a)(hb:aL b)(hc:aL c): ∀x∈[a,b,c],aL x:=by simp only[List.mem_cons,List.not_mem_nil,or_false];rintro _ (rfl|rfl|rfl);exact ha;exact hb;exact hc
theorem T3{a b c d:SV}(ha:aL a)(hb:aL b)(hc:aL c)(hd:aL d): ∀x∈[a,b,c,d],aL x:=by simp only[List.mem_cons,List.not_mem_nil,or_false];rintro _ (rfl|rfl|rfl|rfl);exact ha;exact hb;exact hc;exact hd
section
def Ih(S:Nat->Bool):List (Nat×ai)->(List (Nat×ai)->Prop)->Prop
 | [],k=>k []
 |(i,o)::r,k=> @Bool.rec (fun _=>Prop) (Ih S r fun r'=>k ((i,o)::r')) (Ih S r k) (S i)
def cE(S:Nat->Bool):List (Nat×ai)->List (Nat×ai)
 | []=>[]
 |(i,o)::r=>bif S i then cE S r else(i,o)::cE S r
def kL(S:Nat->Bool):List (Nat×ai)->List (Nat×ai)
 | []=>[]
 |(i,o)::r=>bif S i then(i,o)::kL S r else kL S r
theorem AK(S:Nat->Bool): ∀(l:List (Nat×ai)) (k:List (Nat×ai)->Prop),Ih S l k=k (cE S l)
 | [],k=>rfl
 |(i,o)::r,k=>by
  unfold Ih cE;cases S i
  ·exact AK S r _
  ·exact AK S r _
theorem fB(S:Nat->Bool): ∀(l:List (Nat×ai)) (i:Nat),ak (cE S l) i=if S i=true then none else ak l i
 | [],i=>by simp[cE,ak]
 |(j,o)::r,i=>by
  unfold cE;cases hj:S j
  ·simp only[cond_false]
   unfold ak;by_cases h:j=i
   ·subst h;rw[if_pos rfl,if_pos rfl,hj];rfl
   ·rw[if_neg h,if_neg h];exact fB S r i
  ·simp only[cond_true]
   rw[fB S r i]
   conv=>rhs;unfold ak
   by_cases h:j=i
   ·subst h;rw[hj];rfl
   ·rw[if_neg h]
theorem mD(S:Nat->Bool): ∀(l:List (Nat×ai)) (i:Nat),ak (kL S l) i=if S i=true then ak l i else none
 | [],i=>by simp[kL,ak]
 |(j,o)::r,i=>by
  unfold kL;cases hj:S j
  ·simp only[cond_false]
   rw[mD S r i]
   conv=>rhs;unfold ak
   by_cases h:j=i
   ·subst h;rw[hj];rfl
   ·rw[if_neg h]
  ·simp only[cond_true]
   unfold ak;by_cases h:j=i
   ·subst h;rw[if_pos rfl,if_pos rfl,hj];rfl
   ·rw[if_neg h,if_neg h];exact mD S r i
inductive fI(A:Heap):List SV->List SV->Prop
 |nil:fI A [] []
 |cons {v v':SV} {l l':List SV} (h:bA A v v') (r:fI A l l'):fI A (v::l) (v'::l')
theorem fI.len{A:Heap}{l l':List SV}(h:fI A l l'):l.length=l'.length:=by induction h<;>simp_all
theorem fI.at_{A:Heap}{l l':List SV}(h:fI A l l'): ∀ {i:Nat} {v:SV},l'[i]? =some v-> ∃u,l[i]? =some u/\bA A u v:=by
 induction h with
 |nil=>intro i v hv;simp at hv
 |cons h _ ih=>
  intro i v hv;cases i with
  |zero=>simp at hv;subst hv;exact⟨_,rfl,h⟩
  |succ i=>simp at hv;obtain⟨u,hu,hh⟩:=ih hv;exact⟨u,by simpa using hu,hh⟩
section
variable {c:Cx} {h:Heap} {w:World} (S:Nat->Bool)
def kC(c:Cx)(h:Heap):Cx:=⟨c.β,fun b=>c.Im b\/ ∃i o,h.obj i=some o/\S i=true/\c.β i=b⟩
theorem iX{i:Nat}{o:ai}(ho:(Heap.mk h.cI (cE S h.l)).obj i=some o):h.obj i=some o/\S i=false:=by
 unfold Heap.obj at ho ⊢;rw[fB]at ho;cases hs:S i
 ·rw[hs]at ho;exact⟨ho,rfl⟩
 ·rw[hs]at ho;cases ho
theorem oG{i:Nat}{o:ai}(ho:(Heap.mk h.cI (kL S h.l)).obj i=some o):h.obj i=some o/\S i=true:=by
 unfold Heap.obj at ho ⊢;rw[mD]at ho;cases hs:S i
 ·rw[hs]at ho;cases ho
 ·rw[hs]at ho;exact⟨ho,rfl⟩
theorem bT.kC(hr:bT c h w):bT (kC S c h) ⟨h.cI,cE S h.l⟩ w where
 lt i o ho:=hr.lt i o (iX S ho).1
 obj i o ho:=by
  have:=(hr.obj i o (iX S ho).1).sub (A':=⟨h.cI,cE S h.l⟩) (fun i o ho=>(iX S ho).1) rfl;exact OR.im (c:=c) (c':=Ab.kC S c h) (fun hv=>VR.im (c:=c) (c':=Ab.kC S c h) rfl (fun b hb=> .inl hb) hv) this
 inj i j o p ho hp he:=hr.inj i j o p (iX S ho).1 (iX S hp).1 he
 apart i o ho:=by
  rintro(hb|⟨j,p,hp,hs,he⟩)
  ·exact hr.apart i o (iX S ho).1 hb
  ·have:=hr.inj j i p o hp (iX S ho).1 he
   subst this;rw[(iX S ho).2]at hs;cases hs
 im b hb:=by
  rcases hb with hb|⟨j,p,hp,_,rfl⟩
  ·exact hr.im b hb
  ·exact(hr.obj j p hp).lt
 dj:=hr.dj.mono (fun b hb=> .inl hb) fun _ _=>rfl
theorem Ext.kC:Ext c h w (kC S c h) ⟨h.cI,cE S h.l⟩ w where
 os:=rfl
 tape:=rfl
 output:=rfl
 size:=Nat.le_refl _
 frame _ _ _:=rfl
 shape _ _:=rfl
 im b hb:= .inl hb
 im' b hb:=by
  rcases hb with hb|⟨j,p,hp,_,he⟩
  ·exact .inl hb
  ·exact .inr (.inr ⟨j,p,hp,he⟩)
 cI:=Nat.le_refl _
 old i o' _ ho:=⟨o',(iX S ho).1,Nat.le_refl _,rfl,fun _=>rfl⟩
 new i o' ho:= .inr ⟨o',(iX S ho).1,rfl⟩
theorem bA.kC(hr:bT c h w){v v':SV}(hh:bA ⟨h.cI,kL S h.l⟩ v v'){x:Value}(hv:VR c h w v x):VP (kC S c h).Im w v' x:=by
 have gV:bT c ⟨h.cI,kL S h.l⟩ w:=⟨fun i o ho=>hr.lt i o (oG S ho).1,fun i o ho=>(hr.obj i o (oG S ho).1).sub (fun i o ho=>(oG S ho).1) rfl,fun i j o p ho hp he=>hr.inj i j o p (oG S ho).1 (oG S hp).1 he,
  fun i o ho=>hr.apart i o (oG S ho).1,hr.im,hr.dj⟩
 exact bA.vp gV (fun b hb=> .inl hb) (fun i o ho=> .inr ⟨i,o,(oG S ho).1,(oG S ho).2,rfl⟩) hh (hv.sub (fun i o ho=>(oG S ho).1) rfl)
end
theorem aC.freeze{P:Program}{f:FuncId}{args args':List SV}{h:Heap}{R:bu->Heap->Prop}(S:Nat->Bool)(hh:fI ⟨h.cI,kL S h.l⟩ args args')
  (hp:Ih S h.l fun l'=>aC P f args' ⟨h.cI,l'⟩ R):aC P f args h R:=by
 rw[AK]at hp;refine⟨fun c w xs hr hs hv=> ?_⟩;refine(hp.calls (kC S c h) w xs (hr.kC S) (hs.trans hh.len) fun i v x hi hx=> ?_).mono fun en w' hpost=> ?_
 ·obtain⟨u,hu,huv⟩:=hh.at_ hi
  exact .pure (huv.kC S hr (hv i u x hu hx))
 ·obtain⟨c',h',r,hR,hr',hx',wE⟩:=hpost
  exact⟨c',h',r,hR,hr',(Ext.kC S).trans hr hx',wE⟩
theorem brY{b:Bool}{p q:Prop}(h:b=true)(hp:p): @Bool.rec (fun _=>Prop) q p b:=by subst h;exact hp
theorem brN{b:Bool}{p q:Prop}(h:b=false)(hq:q): @Bool.rec (fun _=>Prop) q p b:=by subst h;exact hq
theorem zY{b:Bool}{p q:Prop}(hp:p)(h:b=true:=by assumption): @Bool.rec (fun _=>Prop) q p b:=brY h hp
theorem zN{b:Bool}{p q:Prop}(hq:q)(h:b=false:=by assumption): @Bool.rec (fun _=>Prop) q p b:=brN h hq
theorem zT{b:Bool}{p:Prop}(hp:p)(h:b=true:=by(simp only[Bool.and_eq_true,Bool.not_eq_true',decide_eq_true_eq,decide_eq_false_iff_not,beq_iff_eq,beq_eq_false_iff_ne,ne_eq]at *;omega)): @Bool.rec (fun _=>Prop) False p b:=ZO h hp
def agree:List SV->Nat->(Nat->SV)->Prop
 | [],_,_=>True
 |v::r,j,get=>v=get j/\aL v/\agree r (j+1) get
theorem CK: ∀ {l:List SV} {k:Nat} {get:Nat->SV},agree l k get-> ∀ {j:Nat} {v:SV},l[j]? =some v->v=get (k+j)/\aL v
 | [],_,_,_,j,v,hv=>by simp at hv
 |u::r,k,get,⟨h1,h2,h3⟩,0,v,hv=>by simp at hv;subst hv;exact⟨h1,h2⟩
 |u::r,k,get,⟨h1,h2,h3⟩,j+1,v,hv=>by
  have:=CK h3 (j:=j) (v:=v) (by simpa using hv);rw[Nat.add_assoc,Nat.add_comm 1 j]at this;exact this
theorem wQ{A:Heap}{i g sz:Nat}{cap:Option Nat}{elems:List SV}{sk:Sk}{get:Nat->SV}(ho:A.obj i=some (.vec g sz elems sk))(h:agree elems 0 get):
  bA A (.sl i g sz 0 elems.length cap) (.aW sz elems.length get):=
 .sl ho (by omega) fun j v _ hv=>by
  have:=CK h hv;rw[Nat.zero_add,Nat.zero_add]at this;rw[<- this.1];exact .lit this.2
theorem aC.kC{P:Program}{f:FuncId}{args args':List SV}{n:Nat}{l:List (Nat×ai)}{R:bu->Heap->Prop}(S:Nat->Bool)(hh:fI ⟨n,kL S l⟩ args args')
 (hp:Ih S l fun l'=>aC P f args' ⟨n,l'⟩ R):aC P f args ⟨n,l⟩ R:=aC.freeze S hh hp
inductive iE:SV->Prop
 |undef:iE .undef
 |bool (b:Bool):iE (.bool b)
 |int (k:IntKind) (n:Int):iE (.int k n)
 |str (s:List UInt8):iE (.str s)
 |eM:iE .eM
 |af:iE .af
 |dj (g:Nat):iE (.dj g)
 |jo:iE .jo
 |dF:iE .dF
 |gb:iE .gb
 |iface (t:TypeId) {v:SV} (h:iE v):iE (.iface t v)
 |agg {l:List SV} (h: ∀v∈l,iE v):iE (.agg l)
 |bn {l:List SV} (h: ∀v∈l,iE v):iE (.bn l)
theorem iE.vp{v:SV}(hl:iE v): ∀ {c:Cx} {h:Heap} {w:World} {x:Value},VR c h w v x-> ∀(Im:Nat->Prop) (w':World),VP Im w' v x:=by
 induction hl with
 |iface t _ ih=>intro c h w x hv Im w';obtain⟨y,rfl,hy⟩:=hv.gW;exact .iface _ _ _ (ih hy _ _)
 |agg _ ih=>intro c h w x hv Im w';obtain⟨cs,rfl,h1,h2⟩:=hv.iJ;exact .agg _ _ h1 fun i v x a b=>ih v (List.mem_of_getElem? a) (h2 i v x a b) _ _
 |bn _ ih=>intro c h w x hv Im w';obtain⟨cs,rfl,h1,h2⟩:=hv.mh;exact .bn _ _ h1 fun i v x a b=>ih v (List.mem_of_getElem? a) (h2 i v x a b) _ _
 |undef=>intro c h w x _ Im w';exact .undef _
 |bool b=>intro c h w x hv Im w';rw[hv.dm];exact .bool b
 |int k n=>intro c h w x hv Im w';rw[hv.bQ];exact .int k n
 |str s=>intro c h w x hv Im w';rw[hv.eJ];exact .str s
 |eM=>intro c h w x hv Im w';rw[hv.iC];exact .eM
 |af=>intro c h w x hv Im w';rw[hv.cF];exact .af
 |dj g=>intro c h w x hv Im w';rw[hv.nk];exact .dj g
 |jo=>intro c h w x hv Im w';rw[hv.vT];exact .jo
 |dF=>intro c h w x hv Im w';rw[hv.kg];exact .dF
 |gb=>intro c h w x hv Im w';rw[hv.nq];exact .gb
theorem aj.Ns{P:Program}{f:FuncId}{args args':List SV}{h:Heap}{v:SV}{R:bu->Heap->Prop}(hp:aj P f args' v)(S:Nat->Bool)(hh:fI ⟨h.cI,kL S h.l⟩ args args')(hv:iE v)
  (hR:R (.ret v) h):aC P f args h R:=by
 refine⟨fun c w xs hr hs Cr=> ?_⟩;have zh:bT (kC S c h) ⟨0,[]⟩ w:=⟨(fun i o ho=>by cases ho),(fun i o ho=>by cases ho),(fun i j o p ho=>by cases ho),(fun i o ho=>by cases ho),(hr.kC S).im,(hr.kC S).dj⟩;refine(hp.2.calls (kC S c h) w xs zh (hs.trans hh.len) fun i v x hi hx=> ?_).mono fun en w' hpost=> ?_
 ·obtain⟨u,hu,huv⟩:=hh.at_ hi
  exact .pure (huv.kC S hr (Cr i u x hu hx))
 ·obtain⟨c',h',r,⟨v',rfl,lQ⟩,hr',hx',x,rfl,mQ⟩:=hpost
  have hfr: ∀b,b<w.heap.size->w'.heap[b]? =w.heap[b]? :=fun b hb=>hx'.frame b hb fun i o ho=>by cases ho
  have kA:Ext c h w c h w':=⟨hx'.os,hx'.tape,hx'.output,hx'.size,fun b hb _=>hfr b hb,hx'.shape,fun b hb=>hb,fun b hb=> .inl hb,Nat.le_refl _,
   fun i o _ ho=>⟨o,ho,Nat.le_refl _,rfl,fun _=>rfl⟩,fun i o ho=> .inr ⟨o,ho,rfl⟩⟩
  have Pt:=lQ.vp hr' (Im:=fun _=>True) (fun _ _=>trivial) (fun _ _ _=>trivial) mQ
  exact⟨c,h,.ret v,hR,⟨hr.lt,fun i o ho=>(hr.obj i o ho).mono hr kA (hfr _ (hr.obj i o ho).lt),hr.inj,hr.apart,fun b hb=>Nat.lt_of_lt_of_le (hr.im b hb) hx'.size,hr.nj kA⟩,kA,x,rfl,
   .pure (hv.vp (c:=c) (h:=h) (w:=w') (.pure (hv.vp (c:=⟨c.β,fun _=>True⟩) (h:=h) (.pure Pt) c.Im w')) c.Im w')⟩
end
end Ab
namespace Ab
open Go Go.RowKit
section
theorem aj.below{P:Program}{f:FuncId}{args:List SV}{v:SV}(hp:aj P f args v){w:World}{xs:Array Value}(Im:Nat->Prop)(tv: ∀b,Im b->b<w.heap.size)(hg:gB Im w)(hs:xs.size=args.length)
  (hv: ∀(i:Nat) (u:SV) (x:Value),args[i]? =some u->xs[i]? =some x->VP Im w u x):
  Calls P f xs w fun e w'=>(∃ x,e= .returned x/\VP (fun _=>True) w' v x)/\Below w.heap.size w w':=by
 have zh:bT ⟨fun _=>0,Im⟩ ⟨0,[]⟩ w:=⟨(fun i o ho=>by cases ho),(fun i o ho=>by cases ho),(fun i j o p ho=>by cases ho),(fun i o ho=>by cases ho),tv,hg⟩;refine(hp.2.calls ⟨fun _=>0,Im⟩ w xs zh hs fun i u x hu hx=> .pure (hv i u x hu hx)).mono fun en w' hpost=> ?_
 obtain⟨c',h',r,⟨v',rfl,lQ⟩,hr',hx',x,rfl,mQ⟩:=hpost;refine⟨⟨x,rfl,lQ.vp hr' (fun _ _=>trivial) (fun _ _ _=>trivial) mQ⟩,hx'.os,hx'.tape,hx'.output,hx'.size,fun b hb=>hx'.frame b hb fun i o ho=>by cases ho⟩
theorem aj.holds{P:Program}{f:FuncId}{args:List SV}(hp:aj P f args (.bool true)){w:World}{xs:Array Value}(Im:Nat->Prop)(tv: ∀b,Im b->b<w.heap.size)(hg:gB Im w)(hs:xs.size=args.length)
  (hv: ∀(i:Nat) (u:SV) (x:Value),args[i]? =some u->xs[i]? =some x->VP Im w u x):
  Calls P f xs w fun e w'=>e= .returned (.bool true)/\Below w.heap.size w w':=by
 refine(hp.below Im tv hg hs hv).mono fun e w' ⟨⟨x,he,hx⟩,hb⟩=> ?_
 cases hx
 exact⟨he,hb⟩
section
variable {H:Type} {enc:TypeId×Value->H} {P:Program}
theorem Ii{f:Func}{s:ChangeSpec}{apart fresh handsOn:Bool}{W W':World}{args:Array Value}{v:Value}{ds gs:List (DataW H)}{before pa pv:List MemPlace}
  (hW:DataW.Whole enc P f.params.toList s.vars apart W args.toList ds gs before)
  (hres: ∀(b:Nat) (sp:Nat->Bool) (hd:Bool),DataW.TrodAll enc P W' b sp hd f.resultTypes.toList (v.resultList f.resultTypes.size) (s.fn H (ds++gs)).results [])
  (hargs:DataW.TrodAll enc P W' 0 (fun b=>decide (b<W.heap.size)) true f.params.toList args.toList (s.fn H (ds++gs)).args pa)
  (hvars:DataW.TrodVars enc P W' (fun b=>decide (b<W.heap.size)) s.vars (s.fn H (ds++gs)).vars pv)
  (hb:Below W.heap.size W W'):s.post enc P f apart fresh handsOn false W args v W':=
 ⟨ds,gs,before,[],pa,pv,hW,hres _ _ _,hargs,hvars,hb.frame _,fun h=>by cases h⟩
end
end
end Ab
