/- Parts of the proof of PCatalogBack, one behind the other, with short names. -/
import Derived.Test.YtegmnocpkgpgeaaGreatDoorZ42
set_option linter.unusedVariables false
set_option linter.unusedSimpArgs false
namespace Go.Proofs.YtegmnocpkgpgeaaGreatDoor
section
def At(T:ld):Nat->List Tk->Prop
 |_,[]=>True
 |i,x::r=>T i=x/\At T (i+1) r
theorem At.app{T:ld}: ∀ {xs ys:List Tk} {i:Nat},At T i (xs++ys)<->At T i xs/\At T (i+xs.length) ys
 | [],ys,i=>by simp[At]
 |x::r,ys,i=>by
  simp only[List.cons_append,At,List.length_cons];rw[At.app (xs:=r),and_assoc,show i+1+r.length=i+(r.length+1) by omega]
theorem FC{d:Tk×Nat}: ∀ {l:List (Tk×Nat)} {i:Nat} {pre:List (Tk×Nat)},i=pre.length->At (fun i=>((pre++l).getD i d).1) i (l.map (·.1))
 | [],_,_,_=>trivial
 |x::r,i,pre,h=>by
  subst h;refine⟨by simp[List.getD],?_⟩;have:=FC (d:=d) (l:=r) (i:=pre.length+1) (pre:=pre++[x]) (by simp);rw[List.append_assoc]at this;exact this
theorem SY(s:List UInt8):((aZ s).k==1||(aZ s).k==4)=true:=by
 unfold aZ SX;dsimp only;split<;>rfl
section
variable {T:ld} {i len:Nat} {s w n:List UInt8} {aX:List UInt8->Bool} {expr:Nat->bB Ex}
theorem dV(h:T i=aZ s):dY T w i=(s==w):=by
 unfold dY;rw[h,SY];rfl
theorem fF(h:T i=aZ s):aM T s i= .ok () (i+1):=by
 unfold aM;rw[dV h,beq_self_eq_true,if_pos rfl]
@[reducible] def GN (aX:List UInt8->Bool) (t:List UInt8):Prop:=cS ⟨1,t,0⟩=true/\aX t=false
theorem Ot: ∀c:UInt8,bL c=true->iY c=c->(97<=c.toNat/\c.toNat<=122)\/c.toNat=95:=by
 intro c;have: ∀n:Fin 256,bL (UInt8.ofNat n.val)=true->iY (UInt8.ofNat n.val)=UInt8.ofNat n.val->(97<=(UInt8.ofNat n.val).toNat/\(UInt8.ofNat n.val).toNat<=122)\/(UInt8.ofNat n.val).toNat=95:=by decide +kernel
 have h:=this ⟨c.toNat,UInt8.toNat_lt c⟩;simp only[UInt8.ofNat_toNat]at h;exact h
theorem l6{t:List UInt8}(h:cS ⟨1,t,0⟩=true):SX t=1/\0<t.length/\t.length<=32:=by
 obtain⟨ho,hb⟩:=p6 h;have e:cA ⟨1,t,0⟩=t:=by unfold cA;rw[if_neg (by show ¬(1:Int)=2;decide),if_neg (by show ¬(1:Int)=3;decide)]
 rw[e]at ho;cases t with
 |nil=>simp[fG]at ho
 |cons c r=>
  unfold fG at ho;dsimp only at ho;split at ho
  ·rename_i hl
   unfold nV at ho;dsimp only at ho;split at ho
   ·cases ho
   ·rename_i h32
    injection ho with h1 h2
    injection h1 with _ h1 _
    have hc:iY c=c:=by
     rw[List.takeWhile_cons,if_pos (by rw[hl];rfl),List.map_cons]at h1;exact(List.cons.inj h1).1
    refine⟨?_,by simp,by omega⟩;unfold SX;exact if_pos ⟨by simp,Ot c hl hc⟩
  ·split at ho
   ·unfold iZ at ho
    dsimp only at ho;split at ho
    ·cases ho
    ·injection ho with h1 _;injection h1 with h1 _ _;exact absurd h1 (by decide)
   ·split at ho
    ·rename_i hq
     obtain rfl:c=39:=by simpa using hq
     have:=(Di ho).1;exact absurd this (by show ¬(1:Int)=3;decide)
    ·have key: ∀L:List (List UInt8),fT (c::r) L= .ok ⟨1,c::r,0⟩ (c::r).length->False:=by
      intro L
      induction L with
      |nil=>intro h;simp[fT]at h
      |cons y L ih=>
       intro h;rw[fT]at h;split at h
       ·injection h with h1 _;injection h1 with h1 _ _;exact absurd h1 (by decide)
       ·exact ih h
     exact(key _ ho).elim
theorem DH(g:cS ⟨1,n,0⟩=true):aZ n=⟨1,n,0⟩:=by unfold aZ;rw[(l6 g).1]
theorem kI(h:T i=aZ n)(g:GN aX n):fC T aX i= .ok n (i+1):=by
 unfold fC;rw[h,DH g.1];dsimp only;rw[g.2];rfl
def kJ:List (List UInt8)->List Tk
 | []=>[]
 |n::r=>aZ n::r.flatMap fun m=>[aZ [44],aZ m]
def fR(l:List (List UInt8)):List Tk:=aZ [40]::(kJ l++[aZ [41]])
theorem xL: ∀ {r:List (List UInt8)} {n:List UInt8} {acc:List (List UInt8)} {f i:Nat},r.length+1<=f->(∀ m∈n::r,GN aX m)->At T i (kJ (n::r))->dY T [44] (i+(kJ (n::r)).length)=false->
  eP T len (fC T aX) f acc i= .ok (acc++n::r) (i+(kJ (n::r)).length)
 | [],n,acc,f+1,i,_,hg,ha,hc=>by
   rw[eP,kI ha.1 (hg n (by simp))];show(if dY T [44] (i+1)then _ else _)=_;rw[if_neg (by rw[show dY T [44] (i+1)=false from hc];decide)];rfl
 |m::r,n,acc,f+1,i,hf,hg,ha,hc=>by
  have ha:T i=aZ n/\T (i+1)=aZ [44]/\At T (i+1+1) (kJ (m::r)):=ha;have el:i+(kJ (n::m::r)).length=i+1+1+(kJ (m::r)).length:=by simp[kJ];omega
  rw[el]at hc ⊢;rw[eP,kI ha.1 (hg n (by simp))];show(if dY T [44] (i+1)then _ else _)=_;rw[if_pos (by rw[dV ha.2.1];rfl)];have:=xL (acc:=acc++[n]) (f:=f) (by simpa using hf) (fun m hm=>hg m (by simp[hm])) ha.2.2 hc;rw[this,List.append_assoc];rfl
theorem xM{most:Nat}{ns:List (List UInt8)}(hg: ∀m∈ns,GN aX m)(h0:0<ns.length)(hm:ns.length<=most)(ha:At T i (fR ns)):qa T len aX most i= .ok ns (i+(fR ns).length):=by
 obtain⟨h1,h2⟩:=ha;obtain⟨h2,h3⟩:=At.app.1 h2;obtain⟨n,r,rfl⟩: ∃n r,ns=n::r:=by cases ns with|nil=>simp at h0|cons n r=>exact⟨n,r,rfl⟩
 unfold qa;rw[fF h1];show((eP T len (fC T aX) most [] (i+1)).then _)=_;rw[xL hm hg h2 (by rw[dV h3.1];rfl)];show((aM T [41] (i+1+(kJ (n::r)).length)).then _)=_;rw[fF h3.1];simp only[bB.then,fR,List.length_cons,List.length_append,List.nil_append,bB.ok.injEq,true_and,List.length_nil];omega
def zO(k:Int):List UInt8:=if k=2 then[105,110,116]else if k=3 then[116,101,120,116]else[98,111,111,108]
def P5(b:Bool):List Tk:=if b then[aZ [110,111,116],aZ [110,117,108,108]]else[]
def kR(c:fH):List Tk:=aZ c.nm::aZ (zO c.kd)::(P5 c.nn++[aZ [44]])
@[reducible] def GC (aX:List UInt8->Bool) (c:fH):Prop:=GN aX c.nm/\(c.kd=1\/c.kd=2\/c.kd=3)
theorem I8{β:Type}{c:fH}{f:fH->Nat->bB β}(g:GC aX c)(h:At T i (kR c)):((ey T aX i).then fun c j=>(aM T [44] j).then fun _ k=>f c k)=f c (i+(kR c).length):=by
 obtain⟨nm,kd,nn⟩:=c;obtain⟨g1,g2⟩:=g;dsimp only at g1 g2;obtain⟨h1,h2,h3⟩:=h;dsimp only at h1 h2 h3;have hk:(T (i+1)).k=1:=by rw[h2];rcases g2 with rfl|rfl|rfl<;>decide
 have ht:kindOf (T (i+1)).t=some kd:=by rw[h2];rcases g2 with rfl|rfl|rfl<;>decide
 unfold ey;rw[kI h1 g1];simp only[bB.then];rw[if_pos hk,ht];dsimp only;cases nn with
 |false=>
  have h3:T (i+1+1)=aZ [44]:=h3.1;rw[if_neg (by rw[dV h3];decide)];dsimp only;rw[fF h3];rfl
 |true=>
  have h3:T (i+1+1)=aZ [110,111,116]/\T (i+1+1+1)=aZ [110,117,108,108]/\T (i+1+1+1+1)=aZ [44]:=⟨h3.1,h3.2.1,h3.2.2.1⟩;rw[if_pos (by rw[dV h3.1];rfl),fF h3.2.1];dsimp only;rw[fF h3.2.2];rfl
theorem G4: ∀ {cs acc:List fH} {f i:Nat},cs.length<=f->0<acc.length\/cs≠[]->(∀ c∈cs,GC aX c)->aX [112,114,105,109,97,114,121]=true->At T i (cs.flatMap kR++[aZ [112,114,105,109,97,114,121]])->
  fD T len aX f acc i= .ok (acc++cs) (i+(cs.flatMap kR).length+1)
 | [],acc,0,i,_,h0,hg,hp,ha=>by
   have ha:T i=aZ [112,114,105,109,97,114,121]:=ha.1;rw[fD,if_pos (by rw[dV ha];rfl),List.append_nil];rfl
 | [],acc,f+1,i,_,h0,hg,hp,ha=>by
   have ha:T i=aZ [112,114,105,109,97,114,121]:=ha.1;have h0:0<acc.length:=h0.elim id fun h=>absurd rfl h
   rw[fD,if_pos (by rw[dV ha,decide_eq_true h0];rfl),List.append_nil];rfl
 |c::r,acc,f+1,i,hf,h0,hg,hp,ha=>by
  rw[List.flatMap_cons,List.append_assoc,At.app]at ha;obtain⟨ha,hb⟩:=ha;have g:=hg c (by simp);rw[fD,if_neg,I8 g ha,G4 (by simpa using hf) (.inl (by simp)) (fun c hc=>hg c (by simp[hc])) hp hb,List.append_assoc,List.flatMap_cons,List.length_append]
  ·simp only[List.cons_append,List.nil_append,bB.ok.injEq,true_and]
   omega
  ·rw[dV ha.1]
   have:(c.nm==[112,114,105,109,97,114,121])=false:=beq_eq_false_iff_ne.2 fun h=>by
    have:=g.1.2;rw[h,hp]at this;cases this
   rw[this,Bool.and_false];decide
def pz(s:Sm):List Tk:=if s.kind=5 then
    aZ [99,114,101,97,116,101]::aZ [116,97,98,108,101]::aZ s.name::aZ [40]::(s.aq.flatMap kR++aZ [112,114,105,109,97,114,121]::aZ [107,101,121]::(fR s.key++[aZ [41]]))
 else aZ [99,114,101,97,116,101]::((if s.uniq then[aZ [117,110,105,113,117,101]]else[])++aZ [105,110,100,101,120]::aZ s.name::aZ [111,110]::aZ s.eH::fR s.names)
inductive GS(aX:List UInt8->Bool):Sm->Prop
 |table {n:List UInt8} {aq:List fH} {key:List (List UInt8)} (h1:GN aX n) (h2: ∀c∈aq,GC aX c) (h3:0<aq.length/\aq.length<=12) (h4: ∀m∈key,GN aX m) (h5:0<key.length/\key.length<=4):GS aX {kind:=5,name:=n,aq:=aq,key:=key}
 |index {n tb:List UInt8} {u:Bool} {names:List (List UInt8)} (h1:GN aX n) (h2:GN aX tb) (h4: ∀m∈names,GN aX m) (h5:0<names.length/\names.length<=4):GS aX {kind:=6,name:=n,eH:=tb,uniq:=u,names:=names}
theorem G5{s:Sm}(g:GS aX s)(hp:aX [112,114,105,109,97,114,121]=true)(ha:At T i (pz s)):n7 T len aX expr i= .ok s (i+(pz s).length):=by
 have h0:T i=aZ [99,114,101,97,116,101]:=by cases g<;>exact ha.1
 unfold n7;rw[if_neg (by rw[dV h0];decide),if_neg (by rw[dV h0];decide),if_neg (by rw[dV h0];decide),if_neg (by rw[dV h0];decide),if_pos (by rw[dV h0];rfl)];cases g with
 | @table n aq key h1 h2 h3 h4 h5=>
   obtain⟨_,a1,a2,a3,a4⟩:T i=_/\T (i+1)=aZ [116,97,98,108,101]/\T (i+1+1)=aZ n/\T (i+1+1+1)=aZ [40]/\At T (i+1+1+1+1) (aq.flatMap kR++aZ [112,114,105,109,97,114,121]::aZ [107,101,121]::(fR key++[aZ [41]])):=ha;rw[show aZ [112,114,105,109,97,114,121]::aZ [107,101,121]::(fR key++[aZ [41]])=[aZ [112,114,105,109,97,114,121]]++(aZ [107,101,121]::(fR key++[aZ [41]])) from rfl,<-List.append_assoc,At.app]at a4;obtain⟨a4,a5,a6⟩:=a4;obtain⟨a6,a7⟩:=At.app.1 a6;rw[List.length_append,List.length_singleton,<-Nat.add_assoc]at a5 a6 a7;rw[if_pos (by rw[dV a1];rfl)];unfold ua;rw[fF a1];simp only[bB.then];rw[kI a2 h1];dsimp only;rw[fF a3];dsimp only;rw[G4 (acc:=[]) h3.2 (.inr fun h=>by rw[h]at h3;simp at h3) h2 hp a4];dsimp only[List.nil_append];unfold fE;rw[fF a5];simp only[bB.then];rw[xM h4 h5.1 h5.2 a6];dsimp only;rw[fF a7.1];simp only[pz,if_pos,List.length_cons,List.length_append,bB.ok.injEq,true_and,List.length_nil];omega
 | @index n tb u names h1 h2 h4 h5=>
   cases u with
   |false=>
    obtain⟨_,a1,a2,a3,a4,a5⟩:T i=_/\T (i+1)=aZ [105,110,100,101,120]/\T (i+1+1)=aZ n/\T (i+1+1+1)=aZ [111,110]/\T (i+1+1+1+1)=aZ tb/\At T (i+1+1+1+1+1) (fR names):=ha;rw[if_neg (by rw[dV a1];decide)];unfold uf;have hu:dY T [117,110,105,113,117,101] (i+1)=false:=by rw[dV a1];decide
    simp only[hu,Bool.false_eq_true,if_false];rw[fF a1];simp only[bB.then];rw[kI a2 h1];dsimp only;rw[fF a3];dsimp only;rw[kI a4 h2];dsimp only;rw[xM h4 h5.1 h5.2 a5];simp only[pz,Int.reduceEq,if_false,List.length_cons,List.length_append,bB.ok.injEq,true_and,List.length_nil,Bool.false_eq_true];omega
   |true=>
    obtain⟨_,a0,a1,a2,a3,a4,a5⟩:T i=_/\T (i+1)=aZ [117,110,105,113,117,101]/\T (i+1+1)=aZ [105,110,100,101,120]/\T (i+1+1+1)=aZ n/\T (i+1+1+1+1)=aZ [111,110]/\T (i+1+1+1+1+1)=aZ tb/\At T (i+1+1+1+1+1+1) (fR names):=ha;rw[if_neg (by rw[dV a0];decide)];unfold uf;have hu:dY T [117,110,105,113,117,101] (i+1)=true:=by rw[dV a0];rfl
    simp only[hu,if_true];rw[fF a1];simp only[bB.then];rw[kI a2 h1];dsimp only;rw[fF a3];dsimp only;rw[kI a4 h2];dsimp only;rw[xM h4 h5.1 h5.2 a5];simp only[pz,Int.reduceEq,if_false,List.length_cons,List.length_append,bB.ok.injEq,true_and,List.length_nil,if_true];omega
theorem xN(s:Sm): ∃r,pz s=aZ [99,114,101,97,116,101]::r:=by
 unfold pz;split<;>exact⟨_,rfl⟩
def LD(ss:List Sm):List Tk:=ss.flatMap fun s=>pz s++[aZ [59]]
theorem zP(hp:aX [112,114,105,109,97,114,121]=true): ∀ {ss acc:List Sm} {f i:Nat},(∀ s∈ss,GS aX s)->At T i (LD ss)->len=i+(LD ss).length->acc.length+ss.length<=64->ss.length<=f->
  bM T len (n7 T len aX expr) f acc i= .ok (acc++ss) len
 | [],acc,f,i,_,_,hl,_,_=>by
   have:i=len:=hl.symm;subst this;cases f with
   |zero=>rw[bM,List.append_nil]
   |succ f=>rw[bM,if_neg (Nat.lt_irrefl _),List.append_nil]
 |s::r,acc,f+1,i,hg,ha,hl,yp,hf=>by
  have e:LD (s::r)=pz s++(aZ [59]::LD r):=by unfold LD;rw[List.flatMap_cons,List.append_assoc];rfl
  rw[e]at ha hl;obtain⟨a1,a2,a3⟩:=At.app.1 ha;rw[List.length_append,List.length_cons]at hl;obtain⟨t,ht⟩:=xN s;have h0:T i=aZ [99,114,101,97,116,101]:=by rw[ht]at a1;exact a1.1
  simp only[List.length_cons]at yp hf;have:=zP (acc:=acc++[s]) (f:=f) (i:=i+(pz s).length+1) hp (fun s hs=>hg s (by simp[hs])) a3 (by omega) (by simp;omega) (by omega);rw[bM,if_pos (by omega),if_neg (by rw[dV h0];decide),if_neg (by omega),G5 (hg s (by simp)) hp a1];show(if dY T [59] (i+(pz s).length)then _ else _)=_;rw[if_pos (by rw[dV a2];rfl),this,List.append_assoc];rfl
end
end
section
def nameAt(cs:List fH)(i:Nat):List UInt8:=match cs[i]? with
 |some c=>c.nm
 |none=>[]
def qO(t:Tb):Sm:={kind:=5,name:=t.nm,aq:=t.key.foldl (kQ false) t.aq,key:=t.key.map (nameAt t.aq)}
def mI(t:Tb)(x:Ix):Sm:={kind:=6,name:=x.nm,eH:=t.nm,uniq:=x.To,names:=x.aq.map (nameAt t.aq)}
def cV(t:Tb):List Sm:=qO t::t.idx.map (mI t)
section
variable {aX:List UInt8->Bool}
structure GIx(aX:List UInt8->Bool)(cs:List fH)(x:Ix):Prop where
 nm:GN aX x.nm
 pos:0<x.aq.length
 le:x.aq.length<=4
 nd:x.aq.Nodup
 lt: ∀i∈x.aq,i<cs.length
structure LF(aX:List UInt8->Bool)(t:Tb):Prop where
 nm:GN aX t.nm
 aq: ∀c∈t.aq,GC aX c
 nd:(t.aq.map (·.nm)).Nodup
 pos:0<t.aq.length
 le:t.aq.length<=12
 kpos:0<t.key.length
 VU:t.key.length<=4
 Zy:t.key.Nodup
 VV: ∀i∈t.key,i<t.aq.length
 nn: ∀i∈t.key,∀c,t.aq[i]? =some c->c.nn=true
 idx: ∀x∈t.idx,GIx aX t.aq x
 Ou:t.idx.length<=8
structure o6(aX:List UInt8->Bool)(c:List Tb):Prop where
 tb: ∀t∈c,LF aX t
 nd:(c.map (·.nm)).Nodup
 xd:(c.flatMap fun t=>t.idx.map (·.nm)).Nodup
 le:c.length<=16
theorem xO{α:Type}{f:α->List UInt8}: ∀ {l:List α} {i:Nat} (hi:i<l.length),(l.map f).Nodup->l.findIdx? (fun x=>f x==f l[i])=some i:=by
 intro l i hi hn;rw[List.findIdx?_eq_some_iff_getElem];refine⟨hi,beq_self_eq_true _,fun j hj=> ?_⟩;have:=List.pairwise_iff_getElem.1 hn j i (by rw[List.length_map];omega) (by rw[List.length_map];exact hi) hj;simp only[List.getElem_map]at this;simpa using this
theorem LG(b:Bool)(cs:List fH)(i j:Nat):(kQ b cs i)[j]? =if i=j then cs[j]?.map (fun c=>{c with nn:=b})else cs[j]? :=by
 unfold kQ;cases h:cs[i]? with
 |none=>
  dsimp only;split
  ·rename_i e;subst e;rw[h];rfl
  ·rfl
 |some c=>
  dsimp only;rw[List.getElem?_set];split
  ·rename_i e;subst e
   have:i<cs.length:=by
    rcases Nat.lt_or_ge i cs.length with hl|hl
    ·exact hl
    ·rw[List.getElem?_eq_none hl]at h;cases h
   rw[if_pos this,h];rfl
  ·rfl
theorem lD(b:Bool): ∀(xs:List Nat) (cs:List fH) (j:Nat),(xs.foldl (kQ b) cs)[j]? =if j∈xs then cs[j]?.map (fun c=>{c with nn:=b})else cs[j]?
 | [],cs,j=>by simp
 |x::r,cs,j=>by
  rw[List.foldl_cons,lD b r,LG];by_cases h1:j∈r
  ·rw[if_pos h1,if_pos (List.mem_cons_of_mem _ h1)]
   split
   ·cases cs[j]? <;>rfl
   ·rfl
  ·rw[if_neg h1]
   by_cases h2:x=j
   ·rw[if_pos h2,if_pos (by rw[h2];exact List.mem_cons_self)]
   ·rw[if_neg h2,if_neg (fun h=>(List.mem_cons.1 h).elim (fun e=>h2 e.symm) h1)]
theorem xP(b:Bool)(xs:List Nat)(cs:List fH):(xs.foldl (kQ b) cs).map (·.nm)=cs.map (·.nm):=by
 refine List.ext_getElem? fun j=> ?_
 rw[List.getElem?_map,List.getElem?_map,lD];split
 ·cases cs[j]? <;>rfl
 ·rfl
theorem j0(b:Bool)(xs:List Nat)(cs:List fH):(xs.foldl (kQ b) cs).length=cs.length:=by
 have:=congrArg List.length (xP b xs cs);simpa using this
theorem FD{xs:List Nat}{cs:List fH}(h: ∀i∈xs,∀c,cs[i]? =some c->c.nn=true):xs.foldl (kQ true) (xs.foldl (kQ false) cs)=cs:=by
 refine List.ext_getElem? fun j=> ?_
 rw[lD,lD];by_cases hj:j∈xs
 ·rw[if_pos hj,if_pos hj]
  cases hc:cs[j]? with
  |none=>rfl
  |some c=>
   have:=h j hj c hc;obtain⟨a,b,d⟩:=c;subst this;rfl
 ·rw[if_neg hj,if_neg hj]
theorem LH{cs ds:List fH}(h:cs.map (·.nm)=ds.map (·.nm))(n:List UInt8):fW cs n=fW ds n:=by
 have e: ∀l:List fH,fW l n=(l.map (·.nm)).findIdx? (· ==n):=fun l=>by
  unfold fW;rw[List.findIdx?_map];rfl
 rw[e,e,h]
theorem zQ{cs ds:List fH}(h:cs.map (·.nm)=ds.map (·.nm)): ∀ns,dJ cs ns=dJ ds ns
 | []=>rfl
 |n::r=>by rw[dJ,dJ,LH h,zQ h r]
theorem um{cs:List fH}{i:Nat}(h:i<cs.length):nameAt cs i=cs[i].nm:=by
 unfold nameAt;rw[List.getElem?_eq_getElem h]
theorem uX{cs:List fH}(hn:(cs.map (·.nm)).Nodup): ∀ {xs:List Nat},(∀ i∈xs,i<cs.length)->dJ cs (xs.map (nameAt cs))=some xs
 | [],_=>rfl
 |x::r,h=>by
  have hx:=h x (by simp);rw[List.map_cons,dJ,um hx,show fW cs cs[x].nm=some x from xO hx hn,uX hn fun i hi=>h i (by simp[hi])]
theorem uY{cs:List fH}{xs:List Nat}(hn:(cs.map (·.nm)).Nodup)(h: ∀i∈xs,i<cs.length)(hx:xs.Nodup):bY cs (xs.map (nameAt cs))= .ok xs:=by
 unfold bY;rw[uX hn h];exact if_pos hx
theorem I9{cs ds:List fH}(h:cs.map (·.nm)=ds.map (·.nm))(ns:List (List UInt8)):bY cs ns=bY ds ns:=by
 unfold bY;rw[zQ h]
theorem xQ{cs:List fH}{xs:List Nat}(hc: ∀c∈cs,GC aX c)(h: ∀i∈xs,i<cs.length): ∀m∈xs.map (nameAt cs),GN aX m:=fun m hm=>by
 obtain⟨i,hi,rfl⟩:=List.mem_map.1 hm;rw[um (h i hi)];exact(hc _ (List.getElem_mem _)).1
theorem LI{b:Bool}{xs:List Nat}{cs:List fH}{c:fH}(h:c∈xs.foldl (kQ b) cs): ∃d∈cs,c.nm=d.nm/\c.kd=d.kd:=by
 obtain⟨j,hj⟩:=List.mem_iff_getElem?.1 h;rw[lD]at hj;split at hj
 ·cases hd:cs[j]? with
  |none=>rw[hd]at hj;cases hj
  |some d=>rw[hd]at hj;cases hj;exact⟨d,List.mem_of_getElem? hd,rfl,rfl⟩
 ·exact⟨c,List.mem_of_getElem? hj,rfl,rfl⟩
theorem zR{b:Bool}{xs:List Nat}{cs:List fH}(hc: ∀c∈cs,GC aX c): ∀c∈xs.foldl (kQ b) cs,GC aX c:=fun c h=>by
 obtain⟨d,hd,h1,h2⟩:=LI h;have:=hc d hd;unfold GC at*;rw[h1,h2];exact this
theorem uo{t:Tb}(g:LF aX t): ∀s∈cV t,GS aX s:=fun s hs=>by
 rcases List.mem_cons.1 hs with rfl|hs
 ·exact .table g.nm (zR g.aq) (by rw[j0];exact⟨g.pos,g.le⟩) (xQ g.aq g.VV) (by rw[List.length_map];exact⟨g.kpos,g.VU⟩)
 ·obtain⟨x,hx,rfl⟩:=List.mem_map.1 hs
  have gx:=g.idx x hx;exact .index gx.nm g.nm (xQ g.aq gx.lt) (by rw[List.length_map];exact⟨gx.pos,gx.le⟩)
theorem FE{c:List Tb}{n:List UInt8}(h:n∉c.map (·.nm)):iu c n=none:=by
 unfold iu;rw[List.findIdx?_eq_none_iff];intro t ht;exact beq_eq_false_iff_ne.2 fun e=>h (List.mem_map.2 ⟨t,ht,e⟩)
theorem FF{c:List Tb}{t:Tb}(g:LF aX t)(hn:t.nm∉c.map (·.nm))(hl:c.length<16):gu c (qO t)= .ok (c++[{t with idx:=[]}]):=by
 unfold gu;rw[if_pos (show(qO t).kind=5 from rfl)]
 have:eX c (qO t).name (qO t).aq (qO t).key= .ok {t with idx:=[]}:=by
  unfold eX;have h1:(qO t).name=t.nm:=rfl;have h2:(qO t).aq.map (·.nm)=t.aq.map (·.nm):=xP false _ _;rw[if_neg (by omega),h1,FE hn,if_neg (by simp),if_neg (by rw[h2];exact fun h=>h g.nd),I9 h2,show(qO t).key=t.key.map (nameAt t.aq) from rfl,uY g.nd g.VV g.Zy];dsimp only;rw[show (qO t).aq=t.key.foldl (kQ false) t.aq from rfl,FD g.nn]
 rw[this]
theorem LJ{l:List Ix}{n:List UInt8}(h:n∉l.map (·.nm)):n9 l n=false:=by
 unfold n9;rw[List.findIdx?_eq_none_iff.2 fun x hx=>beq_eq_false_iff_ne.2 fun e=>h (List.mem_map.2 ⟨x,hx,e⟩)];rfl
theorem FG{c:List Tb}{u:Tb}(h:u.nm∉c.map (·.nm)):iu (c++[u]) u.nm=some c.length:=by
 unfold iu;rw[List.findIdx?_eq_some_iff_getElem];refine⟨by simp,by simp,fun j hj=> ?_⟩;rw[List.getElem_append_left hj];simp only[Bool.not_eq_true,beq_eq_false_iff_ne];exact fun e=>h (List.mem_map.2 ⟨_,List.getElem_mem hj,e⟩)
theorem FH{c:List Tb}{t:Tb}{pre post:List Ix}{x:Ix}(g:LF aX t)(hn:t.nm∉c.map (·.nm))(hi:t.idx=pre++x::post)(h1:x.nm∉c.flatMap fun t=>t.idx.map (·.nm))(h2:x.nm∉pre.map (·.nm)):
  gu (c++[{t with idx:=pre}]) (mI t x)= .ok (c++[{t with idx:=pre++[x]}]):=by
 unfold gu;rw[if_neg (show ¬(mI t x).kind=5 from by show ¬(6:Int)=5;decide),if_pos (show(mI t x).kind=6 from rfl)];unfold jh;have gx:=g.idx x (by rw[hi];simp);rw[show (mI t x).eH=({t with idx:=pre}:Tb).nm from rfl,FG (c:=c) (u:={t with idx:=pre}) hn];dsimp only;rw[show (c++[({t with idx:=pre}:Tb)])[c.length]? =some {t with idx:=pre} by simp];dsimp only;have hl:=g.Ou;rw[hi]at hl;simp only[List.length_append,List.length_cons]at hl;rw[if_neg (by omega),if_neg,show(mI t x).names=x.aq.map (nameAt t.aq) from rfl,uY g.nd gx.lt gx.nd]
 ·dsimp only
  unfold xK;rw[show (c++[({t with idx:=pre}:Tb)])[c.length]? =some {t with idx:=pre} by simp];dsimp only;rw[List.set_append_right _ _ (Nat.le_refl _),Nat.sub_self];rfl
 ·rw[Bool.not_eq_true,List.any_eq_false]
  intro u hu;rw[Bool.not_eq_true];rcases List.mem_append.1 hu with hu|hu
  ·exact LJ fun h=>h1 (List.mem_flatMap.2 ⟨u,hu,h⟩)
  ·obtain rfl:=List.mem_singleton.1 hu
   exact LJ h2
theorem tc{c:List Tb}{t:Tb}(g:LF aX t)(hn:t.nm∉c.map (·.nm))(hx:((c++[t]).flatMap fun t=>t.idx.map (·.nm)).Nodup): ∀ {post pre:List Ix} {i:Nat} {r:List Sm},t.idx=pre++post->
  ∃k,qe (post.map (mI t)++r) i (c++[{t with idx:=pre}])=qe r k (c++[t])
 | [],pre,i,r,h=>⟨i,by rw[List.append_nil]at h;subst h;rfl⟩
 |x::post,pre,i,r,h=>by
  rw[List.flatMap_append,List.nodup_append]at hx;obtain⟨h1,h2,h3⟩:=hx;simp only[List.flatMap_cons,List.flatMap_nil,List.append_nil,h,List.map_append,List.map_cons]at h2 h3
  have hs:=FH (c:=c) (pre:=pre) (x:=x) (post:=post) g hn h (fun hm=>h3 _ hm x.nm (by simp) rfl) (fun hm=>by
   rw[List.nodup_append]at h2;exact h2.2.2 _ hm x.nm (by simp) rfl)
  obtain⟨k,hk⟩:=tc (post:=post) (pre:=pre++[x]) (i:=i+1) (r:=r) g hn (by
   rw[List.flatMap_append,List.nodup_append];refine⟨h1,?_,?_⟩
   ·simpa[h]using h2
   ·simpa[h]using h3) (by rw[h,List.append_assoc];rfl)
  refine⟨k,?_⟩;rw[List.map_cons,List.cons_append,qe,hs];exact hk
theorem DI: ∀ {c2 c1:List Tb} {i:Nat},o6 aX (c1++c2)->qe (c2.flatMap cV) i c1= .ok (c1++c2)
 | [],c1,i,g=>by rw[List.append_nil];rfl
 |t::r,c1,i,g=>by
  have gt:=g.tb t (by simp);have hnd:=g.nd;rw[List.map_append,List.nodup_append]at hnd;have hn:t.nm∉c1.map (·.nm):=fun h=>hnd.2.2 _ h t.nm (by simp) rfl
  have hle:=g.le;simp only[List.length_append,List.length_cons]at hle;have e:c1++t::r=(c1++[t])++r:=by rw[List.append_assoc];rfl
  have hx:=g.xd;rw[e,List.flatMap_append,List.nodup_append]at hx;rw[List.flatMap_cons,cV,List.cons_append,qe,FF gt hn (by omega)];dsimp only;obtain⟨k,hk⟩:=tc (post:=t.idx) (pre:=[]) (i:=i+1) (r:=r.flatMap cV) gt hn hx.1 rfl;rw[hk,DI (by rw[<- e];exact g),<-e]
theorem o6.one{c:List Tb}{t:Tb}(g:o6 aX c)(h:t∈c):o6 aX [t]:=by
 refine⟨fun u hu=>by rw[List.mem_singleton.1 hu];exact g.tb t h,by simp,?_,by simp⟩;obtain⟨a,b,rfl⟩:=List.append_of_mem h;have:=g.xd;rw[List.flatMap_append,List.flatMap_cons,List.nodup_append]at this;have:=(List.nodup_append.1 this.2.1).1;simpa using this
end
end
end Go.Proofs.YtegmnocpkgpgeaaGreatDoor
