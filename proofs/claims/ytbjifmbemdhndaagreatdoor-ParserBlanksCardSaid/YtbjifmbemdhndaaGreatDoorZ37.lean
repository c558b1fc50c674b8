/- Parts of the proof of PParserBlanks, one behind the other, with short names. -/
import Derived.Test.YtbjifmbemdhndaaGreatDoorZ26
import Derived.Test.YtbjifmbemdhndaaGreatDoorZ36
set_option linter.unusedVariables false
set_option linter.unusedSimpArgs false
namespace Go.Proofs.YtbjifmbemdhndaaGreatDoor
section
@[reducible] def Ex.op:Ex->Int| .mk o _ _ _ _ _ _=>o
@[reducible] def Ex.va:Ex->Va| .mk _ v _ _ _ _ _=>v
@[reducible] def Ex.tb:Ex->List UInt8| .mk _ _ t _ _ _ _=>t
@[reducible] def Ex.nm:Ex->List UInt8| .mk _ _ _ n _ _ _=>n
@[reducible] def Ex.slot:Ex->Int| .mk _ _ _ _ s _ _=>s
@[reducible] def Ex.kd:Ex->Int| .mk _ _ _ _ _ k _=>k
@[reducible] def Ex.args:Ex->List Ex| .mk _ _ _ _ _ _ a=>a
structure CC where
 all:Bool
 x:Ex
 nm:List UInt8
structure Src where
 tb:List UInt8
 nm:List UInt8
 vl:Ex
structure Ord where
 x:Ex
 desc:Bool
structure fe where
 nm:List UInt8
 kd:Int
 nn:Bool
structure K0 where
 nm:List UInt8
 x:Ex
 slot:Int
structure Sm where
 kind:Int
 name:List UInt8:=[]
 Dw:List UInt8:=[]
 gX:List fe:=[]
 key:List (List UInt8):=[]
 uniq:Bool:=false
 names:List (List UInt8):=[]
 rows:List (List Ex):=[]
 items:List CC:=[]
 nO:List Src:=[]
 wh:Ex:=kQ
 group:List Ex:=[]
 order:List Ord:=[]
 limit:Int:=0
 sets:List K0:=[]
def cN{α:Type}(T:nE)(len:Nat)(one:Nat->aF α):Nat->List α->Nat->aF (List α)
 |0,_,i=> .bad (if i<len then 3 else 240) i
 |f+1,acc,i=>(one i).then fun x j=>if cj T [44] j then cN T len one f (acc++[x]) (j+1)else .ok (acc++[x]) j
section
variable (T:nE) (len:Nat) (cU:List UInt8->Bool) (expr:Nat->aF Ex)
def iB(most i:Nat):aF (List (List UInt8)):=
 (aA T [40] i).then fun _ j=>(cN T len (de T cU) most [] j).then fun ns k=>(aA T [41] k).then fun _ q=> .ok ns q
def Mv(i:Nat):aF (List UInt8):=if cj T [97,115] i then de T cU (i+1)else .ok [] i
def qK(i:Nat):aF CC:=if cj T [42] i then .ok ⟨true,kQ,[]⟩ (i+1)else(expr i).then fun x j=>(Mv T cU j).then fun s k=> .ok ⟨false,x,s⟩ k
def lX(i:Nat):aF Ex:=if cj T [119,104,101,114,101] i then expr (i+1)else .ok kQ i
def gO(vl:Bool)(i:Nat):aF Src:=(de T cU i).then fun t j=>(Mv T cU j).then fun a k=>
 if vl then(aA T [111,110] k).then fun _ q=>(expr q).then fun x p=> .ok ⟨t,a,x⟩ p else .ok ⟨t,a,kQ⟩ k
def iU:Nat->List Src->Nat->aF (List Src)
 |0,acc,i=>if cj T [106,111,105,110] i then .bad (if i+1<len then 3 else 240) (i+1)else .ok acc i
 |f+1,acc,i=>if cj T [106,111,105,110] i then(gO T cU expr true (i+1)).then fun s j=>iU f (acc++[s]) j else .ok acc i
def Tf{α:Type}(w:List UInt8)(one:Nat->aF α)(i:Nat):aF (List α):=if cj T w i then(aA T [98,121] (i+1)).then fun _ j=>cN T len one 32 [] j else .ok [] i
def lY(i:Nat):aF Ord:=(expr i).then fun x j=>if cj T [97,115,99] j then .ok ⟨x,false⟩ (j+1)else if cj T [100,101,115,99] j then .ok ⟨x,true⟩ (j+1)else .ok ⟨x,false⟩ j
def Jn(i:Nat):aF Int:=if cj T [108,105,109,105,116] i then(if(T (i+1)).k≠2 then .bad 240 (i+1)else if 1073741824<(T (i+1)).n then .bad 233 (i+1)else .ok (T (i+1)).n (i+2))else .ok (-1) i
def Cb(items:List CC)(nO:List Src)(i5:Nat):aF Sm:=(lX T expr i5).then fun wh i6=>(Tf T len [103,114,111,117,112] (rm T cU) i6).then fun group i7=>
 (Tf T len [111,114,100,101,114] (lY T expr) i7).then fun order i8=>(Jn T i8).then fun limit i9=> .ok {kind:=1,items:=items,nO:=nO,wh:=wh,group:=group,order:=order,limit:=limit} i9
def nH(i:Nat):aF Sm:=(aA T [115,101,108,101,99,116] i).then fun _ i1=>(cN T len (qK T cU expr) 32 [] i1).then fun items i2=>(aA T [102,114,111,109] i2).then fun _ i3=>
 (gO T cU expr false i3).then fun s0 i4=>(iU T len cU expr 3 [s0] i4).then fun nO i5=>Cb T len cU expr items nO i5
def wN(i:Nat):aF (List Ex):=(aA T [40] i).then fun _ j=>(cN T len expr 12 [] j).then fun r k=>(aA T [41] k).then fun _ q=> .ok r q
def qj(i:Nat):aF Sm:=(aA T [105,110,115,101,114,116] i).then fun _ i1=>(aA T [105,110,116,111] i1).then fun _ i2=>(de T cU i2).then fun n i3=>
 (if cj T [40] i3 then iB T len cU 12 i3 else .ok [] i3).then fun names i4=>(aA T [118,97,108,117,101,115] i4).then fun _ i5=>(cN T len (wN T len expr) 64 [] i5).then fun rows i6=> .ok {kind:=2,name:=n,names:=names,rows:=rows} i6
def xL(i:Nat):aF K0:=(de T cU i).then fun n j=>(aA T [61] j).then fun _ k=>(expr k).then fun x q=> .ok ⟨n,x,0⟩ q
def qk(i:Nat):aF Sm:=(aA T [117,112,100,97,116,101] i).then fun _ i1=>(de T cU i1).then fun n i2=>(aA T [115,101,116] i2).then fun _ i3=>(cN T len (xL T cU expr) 12 [] i3).then fun sets i4=>
 (lX T expr i4).then fun wh i5=> .ok {kind:=3,name:=n,sets:=sets,wh:=wh} i5
def ql(i:Nat):aF Sm:=(aA T [100,101,108,101,116,101] i).then fun _ i1=>(aA T [102,114,111,109] i1).then fun _ i2=>(de T cU i2).then fun n i3=>(lX T expr i3).then fun wh i4=> .ok {kind:=4,name:=n,wh:=wh} i4
def kindOf(t:List UInt8):Option Int:=if t==[105,110,116]then some 2 else if t==[116,101,120,116]then some 3 else if t==[98,111,111,108]then some 1 else none
def vm(i:Nat):aF fe:=(de T cU i).then fun n j=>match(if(T j).k=1 then kindOf (T j).t else none)with
 |none=> .bad 240 j
 |some k=>if cj T [110,111,116] (j+1)then(aA T [110,117,108,108] (j+2)).then fun _ q=> .ok ⟨n,k,true⟩ q else .ok ⟨n,k,false⟩ (j+1)
def gY:Nat->List fe->Nat->aF (List fe)
 |0,acc,i=>if cj T [112,114,105,109,97,114,121] i then .ok acc (i+1)else .bad (if i<len then 3 else 240) i
 |f+1,acc,i=>if(0<acc.length)&&cj T [112,114,105,109,97,114,121] i then .ok acc (i+1)else(vm T cU i).then fun c j=>(aA T [44] j).then fun _ k=>gY f (acc++[c]) k
def nI(n:List UInt8)(gX:List fe)(i4:Nat):aF Sm:=(aA T [107,101,121] i4).then fun _ i5=>(iB T len cU 4 i5).then fun key i6=>(aA T [41] i6).then fun _ i7=> .ok {kind:=5,name:=n,gX:=gX,key:=key} i7
def tP(i:Nat):aF Sm:=(aA T [116,97,98,108,101] i).then fun _ i1=>(de T cU i1).then fun n i2=>(aA T [40] i2).then fun _ i3=>(gY T len cU 12 [] i3).then fun gX i4=>nI T len cU n gX i4
def tQ(i:Nat):aF Sm:=let u:=cj T [117,110,105,113,117,101] i
 (aA T [105,110,100,101,120] (if u then i+1 else i)).then fun _ i1=>(de T cU i1).then fun n i2=>(aA T [111,110] i2).then fun _ i3=>(de T cU i3).then fun t i4=>(iB T len cU 4 i4).then fun names i5=>
 .ok {kind:=6,name:=n,Dw:=t,uniq:=u,names:=names} i5
def uJ(i:Nat):aF Sm:=
 if cj T [115,101,108,101,99,116] i then nH T len cU expr i
 else if cj T [105,110,115,101,114,116] i then qj T len cU expr i
 else if cj T [117,112,100,97,116,101] i then qk T len cU expr i
 else if cj T [100,101,108,101,116,101] i then ql T cU expr i
 else if cj T [99,114,101,97,116,101] i then(if cj T [116,97,98,108,101] (i+1)then tP T len cU (i+1)else tQ T len cU (i+1))
 else if cj T [98,101,103,105,110] i then .ok {kind:=7} (i+1)
 else if cj T [99,111,109,109,105,116] i then .ok {kind:=8} (i+1)
 else if cj T [114,111,108,108,98,97,99,107] i then(if cj T [116,111] (i+1)then(de T cU (i+2)).then fun n j=> .ok {kind:=11,name:=n} j else .ok {kind:=9} (i+1))
 else if cj T [115,97,118,101,112,111,105,110,116] i then(de T cU (i+1)).then fun n j=> .ok {kind:=10,name:=n} j
 else .bad 240 i
end
end
end Go.Proofs.YtbjifmbemdhndaaGreatDoor
namespace Go.Proofs.YtbjifmbemdhndaaGreatDoor
open Ab Go.RowKit
set_option maxRecDepth 100000
set_option maxHeartbeats 4000000
attribute [local irreducible] bB cH
section
@[reducible] def lZ:aG:=mJ 67
@[reducible] def rowOf (sz:Nat) (l:List SV):SV:= .dm sz l.length fun i=>l.getD i .undef
theorem bx(sz:Nat)(l:List SV):bJ (rowOf sz l):= .dm _ _ _
theorem Jo{A:Heap}{i g sz n:Nat}{cap:Option Nat}{es vs:List SV}{sk:Sk}(ho:A.obj i=some (.vec g sz es sk))(hn:n=es.length)(hl:es.length=vs.length)(h: ∀(j:Nat) (v:SV),es[j]? =some v->cq A v (vs.getD j .undef)):cq A (.sl i g sz 0 n cap) (rowOf sz vs):=by
 have hn':n=vs.length:=hn.trans hl;subst hn';exact .sl ho (by omega) fun j v hj hv=>h j v (by simpa using hv)
theorem qm{A:Heap}{i g sz n:Nat}{cap:Option Nat}{vs:List SV}{sk:Sk}(ho:A.obj i=some (.vec g sz vs sk))(hn:n=vs.length)(hv: ∀v∈vs,bJ v):cq A (.sl i g sz 0 n cap) (rowOf sz vs):=
 Jo ho hn rfl fun j v h=>by
  rw[List.getD,h];exact .lit (hv v (List.mem_of_getElem? h))
variable {l:List TP} {m e:Nat} {α:Type}
structure oh(fl:Bool)(f:FuncId)(l:List TP)(m e:Nat)(tgt:SV->aG)(ty:TypeId)(sz:Nat)(one:Nat->aF α)(sv:α->SV):Prop where
 tok:jb tgt
 Us:fh Tryz.prog f=true
 lit: ∀x,bJ (sv x)
 lt: ∀ {i j x},one i= .ok x j->i<=l.length->j<=l.length
 E: ∀ {i j x},i<=l.length->one i= .ok x j->aZ Tryz.prog f (aT fl) ⟨3,[(2,tgt .ak),(1,lZ),(0,dx l i m e)]⟩ fun r h'=>r= .ret (.bn [])/\h'=⟨4,[(3,.vec 0 sz [sv x] ⟨true,some ty⟩),(2,tgt (.sl 3 0 sz 0 1 none)),(1,lZ),(0,dx l j m e)]⟩
 Eb: ∀ {i j er},i<=l.length->one i= .bad er j->aZ Tryz.prog f (aT fl) ⟨3,[(2,tgt .ak),(1,lZ),(0,dx l i m e)]⟩ fun r h'=>r= .bO (kX er (dF l m j))
 L: ∀ {i j x g} {xs:List α},i<=l.length->xs.length<=1000->one i= .ok x j->aZ Tryz.prog f (aT fl) ⟨4,[(3,.vec g sz (xs.map sv) ⟨true,some ty⟩),(2,tgt (.sl 3 g sz 0 xs.length none)),(1,lZ),(0,dx l i m e)]⟩ fun r h'=>r= .ret (.bn [])/\
  h'=⟨4,[(3,.vec (g+1) sz ((xs++[x]).map sv) ⟨true,some ty⟩),(2,tgt (.sl 3 (g+1) sz 0 (xs.length+1) none)),(1,lZ),(0,dx l j m e)]⟩
 Lb: ∀ {i j er g} {xs:List α},i<=l.length->xs.length<=1000->one i= .bad er j->aZ Tryz.prog f (aT fl) ⟨4,[(3,.vec g sz (xs.map sv) ⟨true,some ty⟩),(2,tgt (.sl 3 g sz 0 xs.length none)),(1,lZ),(0,dx l i m e)]⟩ fun r h'=>r= .bO (kX er (dF l m j))
inductive Jp(l:List TP)(one:Nat->aF α)(most:Nat)(r:aF (List α)) where
 |E (i:Nat) (hi:i<=l.length) (h:cN (aq l) l.length one most [] i=r)
 |L (g:Nat) (xs:List α) (f i:Nat) (hf:xs.length+f=most) (h0:0<xs.length) (hi:i<=l.length) (h:cN (aq l) l.length one f xs i=r)
@[reducible] def Jp.env {one:Nat->aF α} {most:Nat} {r:aF (List α)} (fl:Bool) (g:FuncId):Jp l one most r->Env
  | .E .. =>[(0,.ref 0 0 0 0),(1,.int .i64 most),(2,.func (.func g) [] (aT fl)),(6,.int .i64 0)]
  | .L _ xs .. =>[(0,.ref 0 0 0 0),(1,.int .i64 most),(2,.func (.func g) [] (aT fl)),(6,.int .i64 ((xs.length:Nat):Int))]
@[reducible] def Jp.hp {one:Nat->aF α} {most:Nat} {r:aF (List α)} (m e:Nat) (tgt:SV->aG) (ty:TypeId) (sz:Nat) (sv:α->SV):Jp l one most r->Heap
  | .E i .. =>⟨3,[(2,tgt .ak),(1,lZ),(0,dx l i m e)]⟩
  | .L g xs _ i .. =>⟨4,[(3,.vec g sz (xs.map sv) ⟨true,some ty⟩),(2,tgt (.sl 3 g sz 0 xs.length none)),(1,lZ),(0,dx l i m e)]⟩
def Jp.mu{one:Nat->aF α}{most:Nat}{r:aF (List α)}:Jp l one most r->Nat
 | .E .. =>most+1
 | .L _ _ f .. =>f
def FD(l:List TP)(m e:Nat)(tgt:SV->aG)(sz:Nat)(sv:α->SV)(res:aF (List α))(r:cG)(h':Heap):Prop:=match res with
 | .ok xs j=>r= .ret (.bn [])/\h'.l=[(2,tgt (rowOf sz (xs.map sv))),(1,lZ),(0,dx l j m e)]
 | .bad er j=>r= .bO (kX er (dF l m j))
@[reducible] def Mw (l:List TP) (m e:Nat) (tgt:SV->aG) (sz:Nat) (sv:α->SV) (res:aF (List α)) (r:cG) (h':Heap):Prop:= ∃(S:Nat->Bool) (r2:cG) (l1:List (Nat×aG)),(r=r2\/sw ⟨h'.dB,ou S h'.l⟩ r r2)/\pU ⟨h'.dB,ou S h'.l⟩ (ia S h'.l) l1/\FD l m e tgt sz sv res r2 ⟨h'.dB,l1⟩
theorem qn{tgt:SV->aG}{sz:Nat}{sv:α->SV}{er:Int}{j:Nat}{h':Heap}:Mw l m e tgt sz sv (.bad er j:aF (List α)) (.bO (kX er (dF l m j))) h':=
 ⟨fun _=>false,_,_,.inl rfl,.refl,rfl⟩
theorem yR{tgt:SV->aG}(ht:jb tgt){ty:TypeId}{sz g:Nat}{sv:α->SV}(hs: ∀x,bJ (sv x)){xs:List α}{n j:Nat}(hn:n=xs.length){nx:Nat}:Mw l m e tgt sz sv (.ok xs j) (.ret (.bn [])) ⟨nx,[(3,.vec g sz (xs.map sv) ⟨true,some ty⟩),(2,tgt (.sl 3 g sz 0 n none)),(1,lZ),(0,dx l j m e)]⟩:=
 ⟨fun k=>Nat.beq k 3,_,_,.inl rfl,.cons (ht.iq (qm (vs:=xs.map sv) rfl (by simp[hn]) fun v hv=>by
  obtain⟨x,_,rfl⟩:=List.mem_map.1 hv;exact hs x)) .refl,rfl,rfl⟩
theorem Jq{fl:Bool}{f:FuncId}{tgt:SV->aG}{ty:TypeId}{sz:Nat}{one:Nat->aF α}{sv:α->SV}(hl:l.length<=65536)(ho:oh fl f l m e tgt ty sz one sv){most:Nat}(hm:most<=1000){i:Nat}(hi:i<=l.length):
  aZ Tryz.prog 132 [.ref 0 0 0 0,.int .i64 most,.func (.func f) [] (aT fl)] ⟨3,[(2,tgt .ak),(1,lZ),(0,dx l i m e)]⟩ (FD l m e tgt sz sv (cN (aq l) l.length one most [] i)):=by
 refine aZ.tidy ?_;generalize hr:cN (aq l) l.length one most [] i=res;refine IL.call mixed rfl ?_;iterate 6 all_goals ((try conv=>whnf);try first|(with_reducible first|refine zY ?_|refine zN ?_|refine zT ?_|refine br (fun _=> ?_) (fun _=> ?_)|refine⟨rfl,?_⟩))
 refine Gl (σ:=Jp l one most res) (Jp.env fl f) (Jp.hp m e tgt ty sz sv) Jp.mu ?_ (.E i hi hr) (.refl _);clear hr hi;have GO:=ho.Us;rintro(⟨i,hi,h⟩|⟨g,xs,k,i,hf,h0,hi,h⟩)
 ·rcases Nat.eq_zero_or_pos most with rfl|hp
  ·rw[cN]at h
   obtain rfl:=h;have cf:=sI (l:=l) (m:=m) (e:=e) (n:=0) (most:=0) (by omega) i;iterate 20 all_goals ((try conv=>whnf);try first|(with_reducible first|refine zY ?_|refine zN ?_|refine zT ?_|refine br (fun _=> ?_) (fun _=> ?_)|refine⟨rfl,?_⟩)|(refine cf.bO rfl fun h=> ?_))
   exact qn
  ·obtain⟨k,rfl⟩: ∃k,most=k+1:=⟨most-1,by omega⟩
   rw[cN]at h;have cf:=nG (l:=l) (m:=m) (e:=e) (n:=0) (most:=k+1) (by omega) i;cases hn:one i with
   |bad er j=>
    rw[hn]at h;obtain rfl:aF.bad er j=res:=h;have c:=ho.Eb hi hn;iterate 20 all_goals ((try conv=>whnf);try first|(with_reducible first|refine zY ?_|refine zN ?_|refine zT ?_|refine br (fun _=> ?_) (fun _=> ?_)|refine⟨rfl,?_⟩)|(refine cf.call rfl ?_)|(refine c.mono fun r h' hr=> ?_))
    subst hr;iterate 20 all_goals ((try conv=>whnf);try first|(with_reducible first|refine zY ?_|refine zN ?_|refine zT ?_|refine br (fun _=> ?_) (fun _=> ?_)|refine⟨rfl,?_⟩))
    exact qn
   |ok x j=>
    rw[hn]at h;dsimp only[aF.then]at h;have c:=ho.E hi hn;have hj:=ho.lt hn hi;cases hc:cj (aq l) [44] j with
    |false=>
     have cg:=bU (m:=m) (e:=e) hl hc;rw[hc,if_neg (by decide)]at h;obtain rfl:=h;iterate 20 all_goals ((try conv=>whnf);try first|(with_reducible first|refine zY ?_|refine zN ?_|refine zT ?_|refine br (fun _=> ?_) (fun _=> ?_)|refine⟨rfl,?_⟩)|(refine cf.call rfl ?_)|(refine c.mono fun r h' ⟨hr,hh⟩=> ?_))
     subst hr;subst hh;iterate 20 all_goals ((try conv=>whnf);try first|(with_reducible first|refine zY ?_|refine zN ?_|refine zT ?_|refine br (fun _=> ?_) (fun _=> ?_)|refine⟨rfl,?_⟩)|(refine cg.call rfl ?_))
     exact yR (xs:=[x]) ho.tok ho.lit rfl
    |true=>
     have cg:=bG (m:=m) (e:=e) hl hc;rw[hc,if_pos rfl]at h;iterate 20 all_goals ((try conv=>whnf);try first|(with_reducible first|refine zY ?_|refine zN ?_|refine zT ?_|refine br (fun _=> ?_) (fun _=> ?_)|refine⟨rfl,?_⟩)|(refine cf.call rfl ?_)|(refine c.mono fun r h' ⟨hr,hh⟩=> ?_))
     subst hr;subst hh;iterate 20 all_goals ((try conv=>whnf);try first|(with_reducible first|refine zY ?_|refine zN ?_|refine zT ?_|refine br (fun _=> ?_) (fun _=> ?_)|refine⟨rfl,?_⟩)|(refine cg.call rfl ?_))
     exact⟨.L 0 [x] k (j+1) (by simp;omega) (by simp) (aI hc) h,by show k<k+1+1;omega,rfl,⟨rfl,fun i o h=>h⟩⟩
 ·have e7:IntKind.i64.wrap (((xs.length:Nat):Int)+1)=((xs.length+1:Nat):Int):=bN (by omega)
  rcases Nat.eq_zero_or_pos k with rfl|hp
  ·rw[cN]at h
   obtain rfl:=h;have cf:=sI (l:=l) (m:=m) (e:=e) (n:=xs.length) (most:=most) (by omega) i;iterate 20 all_goals ((try conv=>whnf);try first|(with_reducible first|refine zY ?_|refine zN ?_|refine zT ?_|refine br (fun _=> ?_) (fun _=> ?_)|refine⟨rfl,?_⟩)|(refine cf.bO rfl fun h=> ?_))
   exact qn
  ·obtain⟨k,rfl⟩: ∃q,k=q+1:=⟨k-1,by omega⟩
   rw[cN]at h;have cf:=nG (l:=l) (m:=m) (e:=e) (n:=xs.length) (most:=most) (by omega) i;cases hn:one i with
   |bad er j=>
    rw[hn]at h;obtain rfl:aF.bad er j=res:=h;have c:=ho.Lb (g:=g) (xs:=xs) hi (by omega) hn;iterate 20 all_goals ((try conv=>whnf);try first|(with_reducible first|refine zY ?_|refine zN ?_|refine zT ?_|refine br (fun _=> ?_) (fun _=> ?_)|refine⟨rfl,?_⟩)|(refine cf.call rfl ?_)|(refine c.mono fun r h' hr=> ?_))
    subst hr;iterate 20 all_goals ((try conv=>whnf);try first|(with_reducible first|refine zY ?_|refine zN ?_|refine zT ?_|refine br (fun _=> ?_) (fun _=> ?_)|refine⟨rfl,?_⟩))
    exact qn
   |ok x j=>
    rw[hn]at h;dsimp only[aF.then]at h;have c:=ho.L (g:=g) (xs:=xs) hi (by omega) hn;have hj:=ho.lt hn hi;cases hc:cj (aq l) [44] j with
    |false=>
     have cg:=bU (m:=m) (e:=e) hl hc;rw[hc,if_neg (by decide)]at h;obtain rfl:=h;iterate 20 all_goals ((try conv=>whnf);try first|(with_reducible first|refine zY ?_|refine zN ?_|refine zT ?_|refine br (fun _=> ?_) (fun _=> ?_)|refine⟨rfl,?_⟩)|(refine cf.call rfl ?_)|(refine c.mono fun r h' ⟨hr,hh⟩=> ?_))
     subst hr;subst hh;iterate 20 all_goals ((try conv=>whnf);try first|(with_reducible first|refine zY ?_|refine zN ?_|refine zT ?_|refine br (fun _=> ?_) (fun _=> ?_)|refine⟨rfl,?_⟩)|(refine cg.call rfl ?_))
     exact yR (xs:=xs++[x]) ho.tok ho.lit (by simp)
    |true=>
     have cg:=bG (m:=m) (e:=e) hl hc;rw[hc,if_pos rfl]at h;iterate 20 all_goals ((try conv=>whnf);try first|(with_reducible first|refine zY ?_|refine zN ?_|refine zT ?_|refine br (fun _=> ?_) (fun _=> ?_)|refine⟨rfl,?_⟩)|(refine cf.call rfl ?_)|(refine c.mono fun r h' ⟨hr,hh⟩=> ?_))
     subst hr;subst hh;iterate 20 all_goals ((try conv=>whnf);try first|(with_reducible first|refine zY ?_|refine zN ?_|refine zT ?_|refine br (fun _=> ?_) (fun _=> ?_)|refine⟨rfl,?_⟩)|(refine cg.call rfl ?_))
     exact⟨.L (g+1) (xs++[x]) k (j+1) (by simp;omega) (by simp) (aI hc) h,by show k<k+1;omega,by rw[e7];simp,⟨rfl,fun i o h=>by simp only[Jp.hp,List.length_append,List.length_singleton,List.map_append,List.map_cons,List.map_nil]at h ⊢;exact h⟩⟩
theorem Jr{sv:α->SV}(h: ∀x,bJ (sv x)){xs:List α}: ∀v∈xs.map sv,bJ v:=fun v hv=>by
 obtain⟨x,_,rfl⟩:=List.mem_map.1 hv;exact h x
@[reducible] def FE (K:cG->List (Nat×aG)->Prop) (r:cG) (h':Heap):Prop:= ∃(S:Nat->Bool) (r2:cG) (l1:List (Nat×aG)),(r=r2\/sw ⟨h'.dB,ou S h'.l⟩ r r2)/\pU ⟨h'.dB,ou S h'.l⟩ (ia S h'.l) l1/\K r2 l1
theorem Mx{fl:Bool}{f:FuncId}{tgt:SV->aG}{ty:TypeId}{sz:Nat}{sv:α->SV}(ht:jb tgt)(hs: ∀x,bJ (sv x)){i j:Nat}{x:α}
  (hp:aZ Tryz.prog f (aT fl) ⟨3,[(2,tgt .ak),(1,lZ),(0,dx l i m e)]⟩ (FE fun r l'=>r= .ret (.bn [])/\ ∃k,3<=k/\l'=[(k,.vec 0 sz [sv x] ⟨true,some ty⟩),(2,tgt (.sl k 0 sz 0 1 none)),(1,lZ),(0,dx l j m e)])):
  aZ Tryz.prog f (aT fl) ⟨3,[(2,tgt .ak),(1,lZ),(0,dx l i m e)]⟩ fun r h'=>r= .ret (.bn [])/\h'=⟨4,[(3,.vec 0 sz [sv x] ⟨true,some ty⟩),(2,tgt (.sl 3 0 sz 0 1 none)),(1,lZ),(0,dx l j m e)]⟩:=
 OI ht (ah ..) (ah ..) (hs x) (aZ.tidy hp)
theorem My{fl:Bool}{f:FuncId}{tgt:SV->aG}{ty:TypeId}{sz:Nat}{sv:α->SV}(ht:jb tgt)(hs: ∀x,bJ (sv x)){i j g:Nat}{x:α}{xs:List α}
  (hp:aZ Tryz.prog f (aT fl) ⟨4,[(3,.vec g sz (xs.map sv) ⟨true,some ty⟩),(2,tgt (.sl 3 g sz 0 xs.length none)),(1,lZ),(0,dx l i m e)]⟩ (FE fun r l'=>r= .ret (.bn [])/\l'=[(3,.vec (g+1) sz (xs.map sv++[sv x]) ⟨true,some ty⟩),(2,tgt (.sl 3 (g+1) sz 0 (xs.length+1) none)),(1,lZ),(0,dx l j m e)])):
  aZ Tryz.prog f (aT fl) ⟨4,[(3,.vec g sz (xs.map sv) ⟨true,some ty⟩),(2,tgt (.sl 3 g sz 0 xs.length none)),(1,lZ),(0,dx l i m e)]⟩ fun r h'=>r= .ret (.bn [])/\
   h'=⟨4,[(3,.vec (g+1) sz ((xs++[x]).map sv) ⟨true,some ty⟩),(2,tgt (.sl 3 (g+1) sz 0 (xs.length+1) none)),(1,lZ),(0,dx l j m e)]⟩:=by
 have q:=OJ (P:=Tryz.prog) (f:=f) (ty:=ty) (tr:=67) (sz:=sz) (g:=g) (xs:=xs.map sv) (x:=sv x) ht (ah l i m e) (ah l j m e) (Jr hs) (hs x) (by simp only[List.length_map];exact aZ.tidy hp);simp only[List.length_map]at q;rw[List.map_append];exact q
@[reducible] def box (a:Nat):aG:= .vec 0 1 [.ref a 0 0 0] ⟨false,some 67⟩
theorem FF{N:Nat->Nat->Prop}{a:Nat}(h:N 0 a):mS N lZ (box a):= .vec rfl fun i v v' p q=>by
 cases i with
 |zero=>simp at p q;subst p;subst q;exact .ref h
 |succ i=>simp at p
@[reducible] def aR (fl:Bool) (t b:Nat):List SV:=match fl with
  |false=>[.ref t 0 0 0,.ref b 0 0 0]
  |true=>[.ref b 0 0 0,.ref t 0 0 0]
def JV(a b t:Nat)(k j:Nat):Prop:=(k=0/\j=a)\/(k=1/\j=b)\/(k=2/\j=t)
theorem wO{fl:Bool}{f:FuncId}{tgt:SV->aG}{ty:TypeId}{sz:Nat}{one:Nat->aF α}{sv:α->SV}(hl:l.length<=65536)(ho:oh fl f l m e tgt ty sz one sv){most:Nat}(hm:most<=1000){i:Nat}(hi:i<=l.length)
  {a b t n:Nat}{lh:List (Nat×aG)}{R:cG->Heap->Prop}(h0:aV lh a=some (dx l i m e))(h1:aV lh b=some (box a))(h2:aV lh t=some (tgt .ak))(hab:a≠b)(Da:a≠t)(Y4:b≠t)
  (hR:match cN (aq l) l.length one most [] i with
   | .ok xs j=>R (.ret (.bn [])) ⟨n,cO (cO lh a (dx l j m e)) t (tgt (rowOf sz (xs.map sv)))⟩
   | .bad er j=> ∀h',R (.bO (kX er (dF l m j))) h'):
  aZ Tryz.prog 132 [.ref a 0 0 0,.int .i64 most,.func (.func f) [] (aR fl t b)] ⟨n,lh⟩ R:=by
 have hlt: ∀ {R:cG->Heap->Prop} {f:FuncId} {az:List SV},((∀ j p,aV lh j=some p->j<n)->aZ Tryz.prog f az ⟨n,lh⟩ R)->aZ Tryz.prog f az ⟨n,lh⟩ R:=fun h=>⟨fun c w xs hr hs hv=>(h fun j p hj=>hr.lt j p hj).calls c w xs hr hs hv⟩
 refine hlt fun hlt=> ?_
 have inj: ∀k k' j,JV a b t k j->JV a b t k' j->k=k':=fun k k' j h h'=>by unfold JV at h h';omega
 have fn: ∀k j j',JV a b t k j->JV a b t k j'->j=j':=fun k j j' h h'=>by unfold JV at h h';omega
 refine aZ.frame (N:=JV a b t) (m:=3) (L:=[(2,tgt .ak),(1,lZ),(0,dx l i m e)]) (args:=[.ref 0 0 0 0,.int .i64 most,.func (.func f) [] (aT fl)]) (fun k q hk=> ?_) (fun k j hk=> ?_) inj fn
  (.cons (.ref (.inl ⟨rfl,rfl⟩)) (.cons (.lit (.int _ _)) (.cons (.func _ rfl (by cases fl<;>rfl) (fun i v v' p q=>by simp at p) fun i v v' p q=> ?_) .nil))) ((Jq hl ho hm hi).mono fun r h' hh=> ?_)
 ·rcases Jk hk with⟨rfl,rfl⟩|⟨rfl,rfl⟩|⟨rfl,rfl⟩
  ·exact⟨by decide,t,_,.inr (.inr ⟨rfl,rfl⟩),h2,ho.tok.DD (.lit .ak)⟩
  ·exact⟨by decide,b,_,.inr (.inl ⟨rfl,rfl⟩),h1,FF (.inl ⟨rfl,rfl⟩)⟩
  ·exact⟨by decide,a,_,.inl ⟨rfl,rfl⟩,h0,kG (ah ..)⟩
 ·rcases hk with⟨rfl,rfl⟩|⟨rfl,rfl⟩|⟨rfl,rfl⟩
  ·exact⟨by decide,_,rfl⟩
  ·exact⟨by decide,_,rfl⟩
  ·exact⟨by decide,_,rfl⟩
 ·cases fl
  ·match i with
   |0=>simp at p q;subst p;subst q;exact .ref (.inr (.inr ⟨rfl,rfl⟩))
   |1=>simp at p q;subst p;subst q;exact .ref (.inr (.inl ⟨rfl,rfl⟩))
   |i+2=>simp at p
  ·match i with
   |0=>simp at p q;subst p;subst q;exact .ref (.inr (.inl ⟨rfl,rfl⟩))
   |1=>simp at p q;subst p;subst q;exact .ref (.inr (.inr ⟨rfl,rfl⟩))
   |i+2=>simp at p
 ·generalize hg:cN (aq l) l.length one most [] i=res at hh hR
  cases res with
  |bad er j=>
   obtain rfl:r=_:=hh;refine⟨fun _ _=>False,.bO (kX er (dF l m j)),⟨n,ia (fun j=>(Nat.beq j a||Nat.beq j b)||Nat.beq j t) lh⟩,⟨fun _ _ h=>h.elim,fun _ _ _ h=>h.elim,fun _ _ _ h=>h.elim,fun _ _ h=>h.elim,Nat.le_refl _,fun j o2 hj=> ?_,.bO (.lit (ai _ _))⟩,hR _⟩;have hj:aV (ia _ lh) j=some o2:=hj;rw[ic]at hj;split at hj
   ·cases hj
   ·rename_i hne
    refine⟨hlt j _ hj,.inr ⟨hj,fun k hk=>hne ?_⟩⟩;rcases hk with⟨_,rfl⟩|⟨_,rfl⟩|⟨_,rfl⟩<;>simp
  |ok xs j=>
   obtain⟨rfl,hh⟩:=hh;obtain⟨nx,l'⟩:=h';subst hh;refine⟨JV a b t,.ret (.bn []),_,⟨fun k j h=> .inl ⟨by unfold JV at h;omega,h⟩,inj,fn,fun k j h _=> ?_,Nat.le_refl _,fun q o2 hj=> ?_,.ret (.lit (.bn (by simp)))⟩,hR⟩
   ·rcases h with⟨_,rfl⟩|⟨_,rfl⟩|⟨_,rfl⟩
    ·exact hlt _ _ h0
    ·exact hlt _ _ h1
    ·exact hlt _ _ h2
   ·have hj:aV (cO (cO lh a (dx l j m e)) t (tgt (rowOf sz (xs.map sv)))) q=some o2:=hj
    by_cases S7:q=t
    ·subst S7
     rw[ie (o:=tgt .ak) (by rw[dQ (fun h=>Da h.symm)];exact h2)]at hj;cases hj
     exact⟨hlt _ _ h2,.inl ⟨2,_,.inr (.inr ⟨rfl,rfl⟩),rfl,ho.tok.DD (.lit (bx _ _))⟩⟩
    rw[dQ S7]at hj;by_cases VX:q=a
    ·subst VX
     rw[ie h0]at hj;cases hj
     exact⟨hlt _ _ h0,.inl ⟨0,_,.inl ⟨rfl,rfl⟩,rfl,kG (ah ..)⟩⟩
    rw[dQ VX]at hj;by_cases Xx:q=b
    ·subst Xx
     rw[h1]at hj;cases hj
     exact⟨hlt _ _ h1,.inl ⟨1,_,.inr (.inl ⟨rfl,rfl⟩),rfl,FF (.inl ⟨rfl,rfl⟩)⟩⟩
    exact⟨hlt _ _ hj,.inr ⟨hj,fun k hk=>by unfold JV at hk;omega⟩⟩
theorem cI{fl:Bool}{f:FuncId}{tgt:SV->aG}{ty:TypeId}{sz:Nat}{one:Nat->aF α}{sv:α->SV}(hl:l.length<=65536)(ho:oh fl f l m e tgt ty sz one sv){most:Nat}(hm:most<=1000){i:Nat}(hi:i<=l.length)
  {a b t n:Nat}{lh:List (Nat×aG)}{R:cG->Heap->Prop}{xs:List α}{j:Nat}(hg:cN (aq l) l.length one most [] i= .ok xs j)(h0:aV lh a=some (dx l i m e))(h1:aV lh b=some (box a))(h2:aV lh t=some (tgt .ak))(hd:(Nat.beq a b||(Nat.beq a t||Nat.beq b t))=false)
  (hR:R (.ret (.bn [])) ⟨n,cO (cO lh a (dx l j m e)) t (tgt (rowOf sz (xs.map sv)))⟩):
  aZ Tryz.prog 132 [.ref a 0 0 0,.int .i64 most,.func (.func f) [] (aR fl t b)] ⟨n,lh⟩ R:=by
 simp only[Bool.or_eq_false_iff]at hd;exact wO hl ho hm hi h0 h1 h2 (Nat.ne_of_beq_eq_false hd.1) (Nat.ne_of_beq_eq_false hd.2.1) (Nat.ne_of_beq_eq_false hd.2.2) (by rw[hg];exact hR)
theorem iu{fl:Bool}{f:FuncId}{tgt:SV->aG}{ty:TypeId}{sz:Nat}{one:Nat->aF α}{sv:α->SV}(hl:l.length<=65536)(ho:oh fl f l m e tgt ty sz one sv){most:Nat}(hm:most<=1000){i:Nat}(hi:i<=l.length)
  {a b t n:Nat}{lh:List (Nat×aG)}{R:cG->Heap->Prop}{er:Int}{j:Nat}(hg:cN (aq l) l.length one most [] i= .bad er j)(h0:aV lh a=some (dx l i m e))(h1:aV lh b=some (box a))(h2:aV lh t=some (tgt .ak))(hd:(Nat.beq a b||(Nat.beq a t||Nat.beq b t))=false)
  (hR: ∀h',R (.bO (kX er (dF l m j))) h'):
  aZ Tryz.prog 132 [.ref a 0 0 0,.int .i64 most,.func (.func f) [] (aR fl t b)] ⟨n,lh⟩ R:=by
 simp only[Bool.or_eq_false_iff]at hd;exact wO hl ho hm hi h0 h1 h2 (Nat.ne_of_beq_eq_false hd.1) (Nat.ne_of_beq_eq_false hd.2.1) (Nat.ne_of_beq_eq_false hd.2.2) (by rw[hg];exact hR)
end
end Go.Proofs.YtbjifmbemdhndaaGreatDoor
