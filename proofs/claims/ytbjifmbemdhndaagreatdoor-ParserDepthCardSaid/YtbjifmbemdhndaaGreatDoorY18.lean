/- Parts of the proof of PParserDepth, one behind the other, with short names. -/
import Derived.Test.YtbjifmbemdhndaaGreatDoorY17
import Derived.ProofKit
import Derived.OpenShut
import Derived.Carry
set_option linter.unusedVariables false
set_option linter.unusedSimpArgs false
namespace Ab
open Go
inductive bA:SV->Prop
 |undef:bA .undef
 |bool (b:Bool):bA (.bool b)
 |int (k:IntKind) (n:Int):bA (.int k n)
 |str (s:List UInt8):bA (.str s)
 |ez:bA .ez
 |lB (v:SV) (sub:Nat):bA (.lB v sub)
 |cV (g:Nat):bA (.cV g)
 |ak:bA .ak
 |eR (sz n:Nat) (get:Nat->SV):bA (.eR sz n get)
 |gV:bA .gV
 |de:bA .de
 |fD:bA .fD
 |iface (t:TypeId) {v:SV} (h:bA v):bA (.iface t v)
 |agg {l:List SV} (h: ∀v∈l,bA v):bA (.agg l)
 |aN {l:List SV} (h: ∀v∈l,bA v):bA (.aN l)
 |func (fn:Fn) {a b:List SV} (h: ∀v∈a,bA v) (h': ∀v∈b,bA v):bA (.func fn a b)
theorem bA.vp{v:SV}(hl:bA v): ∀ {c:Cx} {h:Heap} {w:World} {x:Value},VR c h w v x->VP c.Im w v x:=by
 induction hl with
 |iface t _ ih=>intro c h w x hv;obtain⟨y,rfl,hy⟩:=hv.fR;exact .iface _ _ _ (ih hy)
 |agg _ ih=>intro c h w x hv;obtain⟨cs,rfl,h1,h2⟩:=hv.gu;exact .agg _ _ h1 fun i v x a b=>ih v (List.mem_of_getElem? a) (h2 i v x a b)
 |aN _ ih=>intro c h w x hv;obtain⟨cs,rfl,h1,h2⟩:=hv.kB;exact .aN _ _ h1 fun i v x a b=>ih v (List.mem_of_getElem? a) (h2 i v x a b)
 |func fn _ _ ih rY=>intro c h w x hv;obtain⟨a',b',rfl,h1,h2,h3,h4⟩:=hv.ny;exact .func _ _ _ _ _ h1 h2 (fun i v x a b=>ih v (List.mem_of_getElem? a) (h3 i v x a b)) fun i v x a b=>rY v (List.mem_of_getElem? a) (h4 i v x a b)
 |_=>intro c h w x hv;cases hv with|pure hv=>exact hv
inductive cA(A:Heap):SV->SV->Prop
 |row {sz n:Nat} {get get':Nat->SV} (h: ∀j,j<n->Lk (get' j) (get j)):cA A (.eR sz n get) (.eR sz n get')
 |nil {sz:Nat} {get:Nat->SV}:cA A .ak (.eR sz 0 get)
 |lit {v:SV} (h:bA v):cA A v v
 |iface (t:TypeId) {v v':SV} (h:cA A v v'):cA A (.iface t v) (.iface t v')
 |agg {l l':List SV} (hl:l.length=l'.length) (h: ∀(i:Nat) (v v':SV),l[i]? =some v->l'[i]? =some v'->cA A v v'):cA A (.agg l) (.agg l')
 |aN {l l':List SV} (hl:l.length=l'.length) (h: ∀(i:Nat) (v v':SV),l[i]? =some v->l'[i]? =some v'->cA A v v'):cA A (.aN l) (.aN l')
 |sl {i g sz off len:Nat} {cap:Option Nat} {elems:List SV} {sk:Sk} {get:Nat->SV} (ho:A.obj i=some (.vec g sz elems sk)) (hle:off+len<=elems.length)
  (h: ∀(j:Nat) (v:SV),j<len->elems[off+j]? =some v->cA A v (get j)):cA A (.sl i g sz off len cap) (.eR sz len get)
 |same {sz n:Nat} {get get':Nat->SV} (h: ∀j,j<n->get j=get' j):cA A (.eR sz n get) (.eR sz n get')
 |ref {i g idx sub sz:Nat} {elems:List SV} {sk:Sk} {v v':SV} (ho:A.obj i=some (.vec g sz elems sk)) (hi:elems[idx]? =some v) (h:cA A v v'):cA A (.ref i g idx sub) (.lB v' sub)
theorem cA.cells{A:Heap}{v v':SV}(h:cA A v v'):v'.cells.length=v.cells.length/\ ∀(j:Nat) (u u':SV),v.cells[j]? =some u->v'.cells[j]? =some u'->cA A u u':=by
 have one: ∀ {v v':SV},cA A v v'->v.cells=[v]->v'.cells=[v']->v'.cells.length=v.cells.length/\ ∀(j:Nat) (u u':SV),v.cells[j]? =some u->v'.cells[j]? =some u'->cA A u u':=by
  intro v v' h h1 h2;rw[h1,h2];refine⟨rfl,fun j u u' hu pE=> ?_⟩;cases j with
  |zero=>simp at hu pE;subst hu;subst pE;exact h
  |succ j=>simp at hu
 cases h with
 |lit hl=>
  refine⟨rfl,fun j u u' hu pE=> ?_⟩;rw[hu]at pE;cases pE
  cases hl with
  |agg hh=>exact .lit (hh u (List.mem_of_getElem? hu))
  |_=>cases j with
   |zero=>simp only[SV.cells,List.getElem?_cons_zero,Option.some.injEq]at hu;subst hu;exact .lit (by constructor<;>assumption)
   |succ j=>simp[SV.cells]at hu
 |iface t h=>exact one (.iface t h) rfl rfl
 |agg hl h=>exact⟨hl.symm,h⟩
 |aN hl h=>exact one (.aN hl h) rfl rfl
 |sl ho hle h=>exact one (.sl ho hle h) rfl rfl
 |same h=>exact one (.same h) rfl rfl
 |row h=>exact one (.row h) rfl rfl
 |nil=>exact one .nil rfl rfl
 |ref ho hi h=>exact one (.ref ho hi h) rfl rfl
theorem DZ{A:Heap}{c:Cx}{w:World}{Im:Nat->Prop}{v v':SV}{C:Array Value}{base:Nat}(hh:cA A v v')(ih: ∀ {x:Value},VR c A w v x->VP Im w v' x)
  (hcell: ∀(p:Nat) (u:SV) (y:Value),v.cells[p]? =some u->C[base+p]? =some y->VR c A w u y)(hs:base+v.cells.length<=C.size){p:Nat}{u:SV}{y:Value}(hu:v'.cells[p]? =some u)(hy:C[base+p]? =some y):VP Im w u y:=by
 by_cases kV: ∃l,v= .agg l
 ·obtain⟨l,rfl⟩:=kV
  have hp:p<l.length:=by
   have:v'.cells.length=l.length:=hh.cells.1;rcases Nat.lt_or_ge p l.length with h|h
   ·exact h
   ·rw[List.getElem?_eq_none (by omega)]at hu;cases hu
  refine VP.cells (ih (x:= .agg (C.extract base (base+l.length))) (.agg _ _ ?_ fun i v x a b=> ?_)) hu ?_
  ·simp only[SV.cells]at hs
   simp;omega
  ·have hi:i<l.length:=by
    rcases Nat.lt_or_ge i l.length with h|h
    ·exact h
    ·rw[List.getElem?_eq_none h]at a;cases a
   rw[Array.getElem?_extract]at b;split at b
   ·exact hcell i v x a b
   ·cases b
  ·simp only[Value.cells,Array.getElem?_extract]
   simp only[SV.cells]at hs;rw[if_pos (by omega)];exact hy
 ·have h1:v.cells=[v]:=by cases v<;>first|rfl|exact absurd ⟨_,rfl⟩ kV
  have hp:p=0:=by
   have:=hh.cells.1;rw[h1]at this;rcases Nat.eq_zero_or_pos p with h|h
   ·exact h
   ·rw[List.getElem?_eq_none (by simp at this;omega)]at hu;cases hu
  subst hp;have hv:=hcell 0 v y (by rw[h1];rfl) hy;by_cases hun:v= .undef
  ·subst hun
   cases hh with
   |lit hl=>simp only[SV.cells,List.getElem?_cons_zero,Option.some.injEq]at hu;subst hu;exact .undef _
  ·refine VP.cells (ih hv) hu ?_
   rw[hv.JZ hun (fun l hl=>kV ⟨l,hl⟩)];rfl
theorem cA.vp{A:Heap}{c:Cx}{w:World}(hr:bP c A w){Im:Nat->Prop}(hI: ∀b,c.Im b->Im b)(hB: ∀i o,A.obj i=some o->Im (c.β i)){v v':SV}(hh:cA A v v'): ∀ {x:Value},VR c A w v x->VP Im w v' x:=by
 induction hh with
 |lit h=>intro x hv;exact(h.vp hv).mono hI (fun _ _=>rfl)
 |iface t _ ih=>intro x hv;obtain⟨y,rfl,hy⟩:=hv.fR;exact .iface _ _ _ (ih hy)
 |agg hl _ ih=>
  rename_i l l' _;intro x hv;obtain⟨cs,rfl,h1,h2⟩:=hv.gu;refine .agg _ _ (h1.trans hl) fun i v x a b=> ?_
  have hi:i<l.length:=by
   rw[hl];rcases Nat.lt_or_ge i l'.length with h|h
   ·exact h
   ·rw[List.getElem?_eq_none h]at a;cases a
  exact ih i _ v (List.getElem?_eq_getElem hi) a (h2 i _ x (List.getElem?_eq_getElem hi) b)
 |aN hl _ ih=>
  rename_i l l' _;intro x hv;obtain⟨cs,rfl,h1,h2⟩:=hv.kB;refine .aN _ _ (h1.trans hl) fun i v x a b=> ?_
  have hi:i<l.length:=by
   rw[hl];rcases Nat.lt_or_ge i l'.length with h|h
   ·exact h
   ·rw[List.getElem?_eq_none h]at a;cases a
  exact ih i _ v (List.getElem?_eq_getElem hi) a (h2 i _ x (List.getElem?_eq_getElem hi) b)
 |sl ho hle nR ih=>
  rename_i i g sz off len cap elems sk get;intro x hv;obtain⟨_,ad,cc,rfl,hlc,_,gS⟩:=hv.gG ho rfl;by_cases hz:len=0
  ·subst hz;exact .nu _ _ _ _
  ·rcases gS with h0|⟨rfl,ty,n,hsh,O1⟩
   ·omega
   ·cases hr.obj i _ ho with
    |vec _ _ _ _ C ty fz hw VS heq hty hc hf hcell=>
     have hel: ∀j,j<len-> ∃v,elems[off+j]? =some v/\v.cells.length=sz/\(get j).cells.length=sz:=fun j hj=>by
      have hv:elems[off+j]? =some elems[off+j]:=List.getElem?_eq_getElem (by omega);have h1:=hc _ (List.mem_of_getElem? hv);exact⟨_,hv,h1,by rw[(nR j _ hj hv).cells.1];exact h1⟩
     refine .eR sz len get _ (off*sz) cc C ty fz (hB i _ ho) hw ?_ hlc (fun j hj=>(hel j hj).choose_spec.2.2) fun j p u y hj hu hy=> ?_
     ·have:(off+len)*sz<=elems.length*sz:=Nat.mul_le_mul_right _ hle
      rw[Nat.add_mul]at this;omega
     ·obtain⟨v,Sv,hvl,J4⟩:=hel j hj
      have L8:(off+j+1)*sz<=elems.length*sz:=Nat.mul_le_mul_right _ (by omega);rw[Nat.succ_mul,Nat.add_mul]at L8;refine DZ (base:=off*sz+j*sz) (nR j v hj Sv) (ih j v hj Sv) (fun p' u' y' pE hy'=>hcell (off+j) p' v u' y' Sv pE (by rw[Nat.add_mul];exact hy')) (by rw[hvl];omega) hu hy
 |row hrow=>
  intro x hv;cases hv with
  |pure hp=>exact((Lk.eR hrow).vp hp).mono hI (fun _ _=>rfl)
 |nil=>intro x hv;rw[hv.b9];exact .nu _ _ _ _
 |same hsame=>
  rename_i sz n get get';intro x hv;cases hv with
  |pure hp=>
   cases hp with
   |nu=>exact .nu _ _ _ _
   |eR _ _ _ b off cap C ty fz hb hw hn hcap hc h=>
    exact .eR sz n get' b off cap C ty fz (hI b hb) hw hn hcap (fun i hi=>by rw[<- hsame i hi];exact hc i hi) fun i j v x hi hv hx=>(h i j v x hi (by rw[hsame i hi];exact hv) hx).mono hI fun _ _=>rfl
 |ref ho hi nR ih=>
  rename_i i g idx sub sz elems sk v v';intro x hv;have hx:=hv.ey ho rfl;subst hx;cases hr.obj i _ ho with
  |vec _ _ _ _ C ty fz hw hle heq hty hc hf hcell=>
   have hvl:=hc _ (List.mem_of_getElem? hi)
   have hidx:idx<elems.length:=by
    rcases Nat.lt_or_ge idx elems.length with h|h
    ·exact h
    ·rw[List.getElem?_eq_none h]at hi;cases hi
   have L8:(idx+1)*sz<=elems.length*sz:=Nat.mul_le_mul_right _ hidx;rw[Nat.succ_mul]at L8;refine .lB v' sub _ (idx*sz) C ty fz (hB i _ ho) hw (by rw[nR.cells.1,hvl];omega) fun p u y hu hy=> ?_
   exact DZ (base:=idx*sz) nR ih (fun p' u' y' pE hy'=>hcell idx p' v u' y' hi pE hy') (by rw[hvl];omega) hu hy
def au(P:Program)(f:FuncId)(args:List SV)(v:SV):Prop:=(∀ a∈args,bA a)/\aP P f args ⟨0,[]⟩ fun r h'=> ∃v',r= .ret v'/\cA h' v' v
theorem bu{P:Program}{f:FuncId}{args:List SV}{v:SV}(hargs: ∀a∈args,bA a)(hp:aP P f args ⟨0,[]⟩ fun r h'=> ∃v',r= .ret v'/\cA h' v' v):au P f args v:=⟨hargs,hp⟩
theorem au.run{P:Program}{f:FuncId}{args:List SV}{v:SV}(VT:au P f args v)(h:Heap):aP P f args h fun r h'=>r= .ret v/\h'=h:=by
 obtain⟨hargs,hp⟩:=VT;refine⟨fun c w xs hr hs hv=> ?_⟩;have Bf:bP c ⟨0,[]⟩ w:=⟨(fun i o ho=>by cases ho),(fun i o ho=>by cases ho),(fun i j o p ho=>by cases ho),(fun i o ho=>by cases ho),hr.im,hr.cV⟩;refine(hp.calls c w xs Bf hs fun i u x hu hx=> .pure ((hargs u (List.mem_of_getElem? hu)).vp (hv i u x hu hx))).mono fun en w' hpost=> ?_
 obtain⟨c',h',r,⟨v',rfl,nR⟩,hr',hx',x,rfl,mB⟩:=hpost;have hfr: ∀b,b<w.heap.size->w'.heap[b]? =w.heap[b]? :=fun b hb=>hx'.frame b hb fun i o ho=>by cases ho
 have hnew: ∀i o,h'.obj i=some o->w.heap.size<=c'.β i:=fun i o ho=>by
  rcases hx'.new i o ho with h|⟨o',ho',_⟩
  ·exact h
  ·cases ho'
 let c2:Cx:=⟨c.β,fun b=>c'.Im b\/ ∃i o,h'.obj i=some o/\c'.β i=b⟩
 have sC: ∀b,c2.Im b->c.Im b\/w.heap.size<=b:=by
  rintro b (hb|⟨i,o,ho,rfl⟩)
  ·rcases hx'.im' b hb with hb|hb|⟨i,o,ho,_⟩
   ·exact .inl hb
   ·exact .inr hb
   ·cases ho
  ·exact .inr (hnew i o ho)
 have ng:Ext c h w c2 h w':=⟨hx'.os,hx'.tape,hx'.output,hx'.size,fun b hb _=>hfr b hb,hx'.shape,fun b hb=> .inl (hx'.im b hb),fun b hb=>(sC b hb).imp id .inl,Nat.le_refl _,
  fun i o _ ho=>⟨o,ho,Nat.le_refl _,rfl,fun _=>rfl⟩,fun i o ho=> .inr ⟨o,ho,rfl⟩⟩
 refine⟨c2,h,.ret v,⟨rfl,rfl⟩,⟨hr.lt,fun i o ho=>(hr.obj i o ho).mono hr ng (hfr _ (hr.obj i o ho).lt),hr.inj,fun i o ho hb=> ?_,fun b hb=> ?_,hr.nv ng⟩,ng,x,rfl,.pure (nR.vp hr' (fun b hb=> .inl hb) (fun i o ho=> .inr ⟨i,o,ho,rfl⟩) mB)⟩
 ·rcases sC _ hb with h1|h1
  ·exact hr.apart i o ho h1
  ·have:=(hr.obj i o ho).lt
   have e:c2.β i=c.β i:=rfl;omega
 ·rcases hb with hb|⟨i,o,ho,rfl⟩
  ·exact hr'.im b hb
  ·exact(hr'.obj i o ho).lt
theorem au.call{P:Program}{f:FuncId}{args:List SV}{v:SV}(hp:au P f args v){h:Heap}{R:bV->Heap->Prop}(hR:R (.ret v) h):aP P f args h R:=
 (hp.run h).mono fun r h' ⟨h1,h2⟩=>by subst h1;subst h2;exact hR
theorem leaf{h:Heap}{v v':SV}(he:v=v')(hl:bA v'): ∃u,bV.ret v= .ret u/\cA h u v':=⟨v',by rw[he],.lit hl⟩
theorem vA{a b:SV}(ha:bA a)(hb:bA b):bA (.aN [a,b]):= .aN (by simp only[List.mem_cons,List.not_mem_nil,or_false];rintro _ (rfl|rfl);exact ha;exact hb)
theorem bK{a:SV}(ha:bA a): ∀x∈[a],bA x:=by simp only[List.mem_singleton];rintro _ rfl;exact ha
theorem kJ{a b:SV}(ha:bA a)(hb:bA b): ∀x∈[a,b],bA x:=by simp only[List.mem_cons,List.not_mem_nil,or_false];rintro _ (rfl|rfl);exact ha;exact hb
theorem D0{a b c:SV}(ha:bA a)(hb:bA b)(hc:bA c): ∀x∈[a,b,c],bA x:=by simp only[List.mem_cons,List.not_mem_nil,or_false];rintro _ (rfl|rfl|rfl);exact ha;exact hb;exact hc
theorem Py{a b c d:SV}(ha:bA a)(hb:bA b)(hc:bA c)(hd:bA d): ∀x∈[a,b,c,d],bA x:=by simp only[List.mem_cons,List.not_mem_nil,or_false];rintro _ (rfl|rfl|rfl|rfl);exact ha;exact hb;exact hc;exact hd
section
def E8(S:Nat->Bool):List (Nat×aA)->(List (Nat×aA)->Prop)->Prop
 | [],k=>k []
 |(i,o)::r,k=> @Bool.rec (fun _=>Prop) (E8 S r fun r'=>k ((i,o)::r')) (E8 S r k) (S i)
def iQ(S:Nat->Bool):List (Nat×aA)->List (Nat×aA)
 | []=>[]
 |(i,o)::r=>bif S i then iQ S r else(i,o)::iQ S r
def qX(S:Nat->Bool):List (Nat×aA)->List (Nat×aA)
 | []=>[]
 |(i,o)::r=>bif S i then(i,o)::qX S r else qX S r
theorem xQ(S:Nat->Bool): ∀(l:List (Nat×aA)) (k:List (Nat×aA)->Prop),E8 S l k=k (iQ S l)
 | [],k=>rfl
 |(i,o)::r,k=>by
  unfold E8 iQ;cases S i
  ·exact xQ S r _
  ·exact xQ S r _
theorem gj(S:Nat->Bool): ∀(l:List (Nat×aA)) (i:Nat),aG (iQ S l) i=if S i=true then none else aG l i
 | [],i=>by simp[iQ,aG]
 |(j,o)::r,i=>by
  unfold iQ;cases hj:S j
  ·simp only[cond_false]
   unfold aG;by_cases h:j=i
   ·subst h;rw[if_pos rfl,if_pos rfl,hj];rfl
   ·rw[if_neg h,if_neg h];exact gj S r i
  ·simp only[cond_true]
   rw[gj S r i]
   conv=>rhs;unfold aG
   by_cases h:j=i
   ·subst h;rw[hj];rfl
   ·rw[if_neg h]
theorem mF(S:Nat->Bool): ∀(l:List (Nat×aA)) (i:Nat),aG (qX S l) i=if S i=true then aG l i else none
 | [],i=>by simp[qX,aG]
 |(j,o)::r,i=>by
  unfold qX;cases hj:S j
  ·simp only[cond_false]
   rw[mF S r i]
   conv=>rhs;unfold aG
   by_cases h:j=i
   ·subst h;rw[hj];rfl
   ·rw[if_neg h]
  ·simp only[cond_true]
   unfold aG;by_cases h:j=i
   ·subst h;rw[if_pos rfl,if_pos rfl,hj];rfl
   ·rw[if_neg h,if_neg h];exact mF S r i
inductive mU(A:Heap):List SV->List SV->Prop
 |nil:mU A [] []
 |cons {v v':SV} {l l':List SV} (h:cA A v v') (r:mU A l l'):mU A (v::l) (v'::l')
theorem mU.len{A:Heap}{l l':List SV}(h:mU A l l'):l.length=l'.length:=by induction h<;>simp_all
theorem mU.at_{A:Heap}{l l':List SV}(h:mU A l l'): ∀ {i:Nat} {v:SV},l'[i]? =some v-> ∃u,l[i]? =some u/\cA A u v:=by
 induction h with
 |nil=>intro i v hv;simp at hv
 |cons h _ ih=>
  intro i v hv;cases i with
  |zero=>simp at hv;subst hv;exact⟨_,rfl,h⟩
  |succ i=>simp at hv;obtain⟨u,hu,hh⟩:=ih hv;exact⟨u,by simpa using hu,hh⟩
section
variable {c:Cx} {h:Heap} {w:World} (S:Nat->Bool)
def ld(c:Cx)(h:Heap):Cx:=⟨c.β,fun b=>c.Im b\/ ∃i o,h.obj i=some o/\S i=true/\c.β i=b⟩
theorem gM{i:Nat}{o:aA}(ho:(Heap.mk h.dA (iQ S h.l)).obj i=some o):h.obj i=some o/\S i=false:=by
 unfold Heap.obj at ho ⊢;rw[gj]at ho;cases hs:S i
 ·rw[hs]at ho;exact⟨ho,rfl⟩
 ·rw[hs]at ho;cases ho
theorem mG{i:Nat}{o:aA}(ho:(Heap.mk h.dA (qX S h.l)).obj i=some o):h.obj i=some o/\S i=true:=by
 unfold Heap.obj at ho ⊢;rw[mF]at ho;cases hs:S i
 ·rw[hs]at ho;cases ho
 ·rw[hs]at ho;exact⟨ho,rfl⟩
theorem bP.ld(hr:bP c h w):bP (ld S c h) ⟨h.dA,iQ S h.l⟩ w where
 lt i o ho:=hr.lt i o (gM S ho).1
 obj i o ho:=by
  have:=(hr.obj i o (gM S ho).1).sub (A':=⟨h.dA,iQ S h.l⟩) (fun i o ho=>(gM S ho).1) rfl;exact OR.im (c:=c) (c':=Ab.ld S c h) (fun hv=>VR.im (c:=c) (c':=Ab.ld S c h) rfl (fun b hb=> .inl hb) hv) this
 inj i j o p ho hp he:=hr.inj i j o p (gM S ho).1 (gM S hp).1 he
 apart i o ho:=by
  rintro(hb|⟨j,p,hp,hs,he⟩)
  ·exact hr.apart i o (gM S ho).1 hb
  ·have:=hr.inj j i p o hp (gM S ho).1 he
   subst this;rw[(gM S ho).2]at hs;cases hs
 im b hb:=by
  rcases hb with hb|⟨j,p,hp,_,rfl⟩
  ·exact hr.im b hb
  ·exact(hr.obj j p hp).lt
 cV:=hr.cV.mono (fun b hb=> .inl hb) fun _ _=>rfl
theorem Ext.ld:Ext c h w (ld S c h) ⟨h.dA,iQ S h.l⟩ w where
 os:=rfl
 tape:=rfl
 output:=rfl
 size:=Nat.le_refl _
 frame _ _ _:=rfl
 shape _ _:=rfl
 im b hb:= .inl hb
 im' b hb:=by
  rcases hb with hb|⟨j,p,hp,_,he⟩
  ·exact .inl hb
  ·exact .inr (.inr ⟨j,p,hp,he⟩)
 dA:=Nat.le_refl _
 old i o' _ ho:=⟨o',(gM S ho).1,Nat.le_refl _,rfl,fun _=>rfl⟩
 new i o' ho:= .inr ⟨o',(gM S ho).1,rfl⟩
theorem cA.ld(hr:bP c h w){v v':SV}(hh:cA ⟨h.dA,qX S h.l⟩ v v'){x:Value}(hv:VR c h w v x):VP (ld S c h).Im w v' x:=by
 have iw:bP c ⟨h.dA,qX S h.l⟩ w:=⟨fun i o ho=>hr.lt i o (mG S ho).1,fun i o ho=>(hr.obj i o (mG S ho).1).sub (fun i o ho=>(mG S ho).1) rfl,fun i j o p ho hp he=>hr.inj i j o p (mG S ho).1 (mG S hp).1 he,
  fun i o ho=>hr.apart i o (mG S ho).1,hr.im,hr.cV⟩
 exact cA.vp iw (fun b hb=> .inl hb) (fun i o ho=> .inr ⟨i,o,(mG S ho).1,(mG S ho).2,rfl⟩) hh (hv.sub (fun i o ho=>(mG S ho).1) rfl)
end
theorem aP.freeze{P:Program}{f:FuncId}{args args':List SV}{h:Heap}{R:bV->Heap->Prop}(S:Nat->Bool)(hh:mU ⟨h.dA,qX S h.l⟩ args args')
  (hp:E8 S h.l fun l'=>aP P f args' ⟨h.dA,l'⟩ R):aP P f args h R:=by
 rw[xQ]at hp;refine⟨fun c w xs hr hs hv=> ?_⟩;refine(hp.calls (ld S c h) w xs (hr.ld S) (hs.trans hh.len) fun i v x hi hx=> ?_).mono fun en w' hpost=> ?_
 ·obtain⟨u,hu,huv⟩:=hh.at_ hi
  exact .pure (huv.ld S hr (hv i u x hu hx))
 ·obtain⟨c',h',r,hR,hr',hx',yL⟩:=hpost
  exact⟨c',h',r,hR,hr',(Ext.ld S).trans hr hx',yL⟩
theorem VU{b:Bool}{p q:Prop}(h:b=true)(hp:p): @Bool.rec (fun _=>Prop) q p b:=by subst h;exact hp
theorem VV{b:Bool}{p q:Prop}(h:b=false)(hq:q): @Bool.rec (fun _=>Prop) q p b:=by subst h;exact hq
theorem zY{b:Bool}{p q:Prop}(hp:p)(h:b=true:=by assumption): @Bool.rec (fun _=>Prop) q p b:=VU h hp
theorem zN{b:Bool}{p q:Prop}(hq:q)(h:b=false:=by assumption): @Bool.rec (fun _=>Prop) q p b:=VV h hq
theorem zT{b:Bool}{p:Prop}(hp:p)(h:b=true:=by(simp only[Bool.and_eq_true,Bool.not_eq_true',decide_eq_true_eq,decide_eq_false_iff_not,beq_iff_eq,beq_eq_false_iff_ne,ne_eq]at *;omega)): @Bool.rec (fun _=>Prop) False p b:=Vb h hp
def agree:List SV->Nat->(Nat->SV)->Prop
 | [],_,_=>True
 |v::r,j,get=>v=get j/\bA v/\agree r (j+1) get
theorem zP: ∀ {l:List SV} {k:Nat} {get:Nat->SV},agree l k get-> ∀ {j:Nat} {v:SV},l[j]? =some v->v=get (k+j)/\bA v
 | [],_,_,_,j,v,hv=>by simp at hv
 |u::r,k,get,⟨h1,h2,h3⟩,0,v,hv=>by simp at hv;subst hv;exact⟨h1,h2⟩
 |u::r,k,get,⟨h1,h2,h3⟩,j+1,v,hv=>by
  have:=zP h3 (j:=j) (v:=v) (by simpa using hv);rw[Nat.add_assoc,Nat.add_comm 1 j]at this;exact this
theorem uk{A:Heap}{i g sz:Nat}{cap:Option Nat}{elems:List SV}{sk:Sk}{get:Nat->SV}(ho:A.obj i=some (.vec g sz elems sk))(h:agree elems 0 get):
  cA A (.sl i g sz 0 elems.length cap) (.eR sz elems.length get):=
 .sl ho (by omega) fun j v _ hv=>by
  have:=zP h hv;rw[Nat.zero_add,Nat.zero_add]at this;rw[<- this.1];exact .lit this.2
theorem aP.ld{P:Program}{f:FuncId}{args args':List SV}{n:Nat}{l:List (Nat×aA)}{R:bV->Heap->Prop}(S:Nat->Bool)(hh:mU ⟨n,qX S l⟩ args args')
 (hp:E8 S l fun l'=>aP P f args' ⟨n,l'⟩ R):aP P f args ⟨n,l⟩ R:=aP.freeze S hh hp
inductive gN:SV->Prop
 |undef:gN .undef
 |bool (b:Bool):gN (.bool b)
 |int (k:IntKind) (n:Int):gN (.int k n)
 |str (s:List UInt8):gN (.str s)
 |ez:gN .ez
 |ak:gN .ak
 |cV (g:Nat):gN (.cV g)
 |gV:gN .gV
 |de:gN .de
 |fD:gN .fD
 |iface (t:TypeId) {v:SV} (h:gN v):gN (.iface t v)
 |agg {l:List SV} (h: ∀v∈l,gN v):gN (.agg l)
 |aN {l:List SV} (h: ∀v∈l,gN v):gN (.aN l)
theorem gN.vp{v:SV}(hl:gN v): ∀ {c:Cx} {h:Heap} {w:World} {x:Value},VR c h w v x-> ∀(Im:Nat->Prop) (w':World),VP Im w' v x:=by
 induction hl with
 |iface t _ ih=>intro c h w x hv Im w';obtain⟨y,rfl,hy⟩:=hv.fR;exact .iface _ _ _ (ih hy _ _)
 |agg _ ih=>intro c h w x hv Im w';obtain⟨cs,rfl,h1,h2⟩:=hv.gu;exact .agg _ _ h1 fun i v x a b=>ih v (List.mem_of_getElem? a) (h2 i v x a b) _ _
 |aN _ ih=>intro c h w x hv Im w';obtain⟨cs,rfl,h1,h2⟩:=hv.kB;exact .aN _ _ h1 fun i v x a b=>ih v (List.mem_of_getElem? a) (h2 i v x a b) _ _
 |undef=>intro c h w x _ Im w';exact .undef _
 |bool b=>intro c h w x hv Im w';rw[hv.cP];exact .bool b
 |int k n=>intro c h w x hv Im w';rw[hv.bF];exact .int k n
 |str s=>intro c h w x hv Im w';rw[hv.eu];exact .str s
 |ez=>intro c h w x hv Im w';rw[hv.gi];exact .ez
 |ak=>intro c h w x hv Im w';rw[hv.b9];exact .ak
 |cV g=>intro c h w x hv Im w';rw[hv.lC];exact .cV g
 |gV=>intro c h w x hv Im w';rw[hv.tD];exact .gV
 |de=>intro c h w x hv Im w';rw[hv.iE];exact .de
 |fD=>intro c h w x hv Im w';rw[hv.lD];exact .fD
theorem au.L9{P:Program}{f:FuncId}{args args':List SV}{h:Heap}{v:SV}{R:bV->Heap->Prop}(hp:au P f args' v)(S:Nat->Bool)(hh:mU ⟨h.dA,qX S h.l⟩ args args')(hv:gN v)
  (hR:R (.ret v) h):aP P f args h R:=by
 refine⟨fun c w xs hr hs E1=> ?_⟩;have Bf:bP (ld S c h) ⟨0,[]⟩ w:=⟨(fun i o ho=>by cases ho),(fun i o ho=>by cases ho),(fun i j o p ho=>by cases ho),(fun i o ho=>by cases ho),(hr.ld S).im,(hr.ld S).cV⟩;refine(hp.2.calls (ld S c h) w xs Bf (hs.trans hh.len) fun i v x hi hx=> ?_).mono fun en w' hpost=> ?_
 ·obtain⟨u,hu,huv⟩:=hh.at_ hi
  exact .pure (huv.ld S hr (E1 i u x hu hx))
 ·obtain⟨c',h',r,⟨v',rfl,nR⟩,hr',hx',x,rfl,mB⟩:=hpost
  have hfr: ∀b,b<w.heap.size->w'.heap[b]? =w.heap[b]? :=fun b hb=>hx'.frame b hb fun i o ho=>by cases ho
  have ng:Ext c h w c h w':=⟨hx'.os,hx'.tape,hx'.output,hx'.size,fun b hb _=>hfr b hb,hx'.shape,fun b hb=>hb,fun b hb=> .inl hb,Nat.le_refl _,
   fun i o _ ho=>⟨o,ho,Nat.le_refl _,rfl,fun _=>rfl⟩,fun i o ho=> .inr ⟨o,ho,rfl⟩⟩
  have OO:=nR.vp hr' (Im:=fun _=>True) (fun _ _=>trivial) (fun _ _ _=>trivial) mB
  exact⟨c,h,.ret v,hR,⟨hr.lt,fun i o ho=>(hr.obj i o ho).mono hr ng (hfr _ (hr.obj i o ho).lt),hr.inj,hr.apart,fun b hb=>Nat.lt_of_lt_of_le (hr.im b hb) hx'.size,hr.nv ng⟩,ng,x,rfl,
   .pure (hv.vp (c:=c) (h:=h) (w:=w') (.pure (hv.vp (c:=⟨c.β,fun _=>True⟩) (h:=h) (.pure OO) c.Im w')) c.Im w')⟩
end
end Ab
namespace Ab
open Go Go.RowKit
section
theorem au.below{P:Program}{f:FuncId}{args:List SV}{v:SV}(hp:au P f args v){w:World}{xs:Array Value}(Im:Nat->Prop)(sC: ∀b,Im b->b<w.heap.size)(hg:fI Im w)(hs:xs.size=args.length)
  (hv: ∀(i:Nat) (u:SV) (x:Value),args[i]? =some u->xs[i]? =some x->VP Im w u x):
  Calls P f xs w fun e w'=>(∃ x,e= .returned x/\VP (fun _=>True) w' v x)/\Below w.heap.size w w':=by
 have Bf:bP ⟨fun _=>0,Im⟩ ⟨0,[]⟩ w:=⟨(fun i o ho=>by cases ho),(fun i o ho=>by cases ho),(fun i j o p ho=>by cases ho),(fun i o ho=>by cases ho),sC,hg⟩;refine(hp.2.calls ⟨fun _=>0,Im⟩ w xs Bf hs fun i u x hu hx=> .pure (hv i u x hu hx)).mono fun en w' hpost=> ?_
 obtain⟨c',h',r,⟨v',rfl,nR⟩,hr',hx',x,rfl,mB⟩:=hpost;refine⟨⟨x,rfl,nR.vp hr' (fun _ _=>trivial) (fun _ _ _=>trivial) mB⟩,hx'.os,hx'.tape,hx'.output,hx'.size,fun b hb=>hx'.frame b hb fun i o ho=>by cases ho⟩
theorem au.holds{P:Program}{f:FuncId}{args:List SV}(hp:au P f args (.bool true)){w:World}{xs:Array Value}(Im:Nat->Prop)(sC: ∀b,Im b->b<w.heap.size)(hg:fI Im w)(hs:xs.size=args.length)
  (hv: ∀(i:Nat) (u:SV) (x:Value),args[i]? =some u->xs[i]? =some x->VP Im w u x):
  Calls P f xs w fun e w'=>e= .returned (.bool true)/\Below w.heap.size w w':=by
 refine(hp.below Im sC hg hs hv).mono fun e w' ⟨⟨x,he,hx⟩,hb⟩=> ?_
 cases hx
 exact⟨he,hb⟩
section
variable {H:Type} {enc:TypeId×Value->H} {P:Program}
theorem E9{f:Func}{s:ChangeSpec}{apart fresh handsOn:Bool}{W W':World}{args:Array Value}{v:Value}{ds gs:List (DataW H)}{before pa pv:List MemPlace}
  (hW:DataW.Whole enc P f.params.toList s.vars apart W args.toList ds gs before)
  (hres: ∀(b:Nat) (sp:Nat->Bool) (hd:Bool),DataW.TrodAll enc P W' b sp hd f.resultTypes.toList (v.resultList f.resultTypes.size) (s.fn H (ds++gs)).results [])
  (hargs:DataW.TrodAll enc P W' 0 (fun b=>decide (b<W.heap.size)) true f.params.toList args.toList (s.fn H (ds++gs)).args pa)
  (hvars:DataW.TrodVars enc P W' (fun b=>decide (b<W.heap.size)) s.vars (s.fn H (ds++gs)).vars pv)
  (hb:Below W.heap.size W W'):s.post enc P f apart fresh handsOn false W args v W':=
 ⟨ds,gs,before,[],pa,pv,hW,hres _ _ _,hargs,hvars,hb.frame _,fun h=>by cases h⟩
end
end
end Ab
