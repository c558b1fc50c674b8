/- Parts of the proof of PCatalogBack, one behind the other, with short names. -/
import Derived.Test.YtegmnocpkgpgeaaGreatDoorZ41
import Derived.Test.YtegmnocpkgpgeaaGreatDoorZ39
import Derived.Test.YtegmnocpkgpgeaaGreatDoorZ30
import Derived.Test.YtegmnocpkgpgeaaGreatDoorZ26
import Derived.Test.YtegmnocpkgpgeaaGreatDoorZ34
set_option linter.unusedVariables false
set_option linter.unusedSimpArgs false
namespace Ab
open Go
noncomputable section
def I7(K:Option SV->Heap->Prop)(m:Option SV):bu->Heap->Prop
 | .ret _,h=>K m h
 | .eY _,_=>False
def Fy:Option SV->SV
 |none=> .dF
 |some v=>v
def On:bK->Option (Nat×bK)
 | .seq a b=>match a with
   | .region ops _=>match ops with
     |o::r=>match r with
      | []=>match o.op with
        | .O6=>match o.guard with
          |none=>match o.dst with
           |some d=>some (d,b)
           |none=>none
          |_=>none
        |_=>none
      |_=>none
     |_=>none
   |_=>none
 |_=>none
def VQ(P:Program)(Γ:bR)(Λ:kB)(code:bK)(rs:List RV)(m:Option SV)(K:Option SV->Heap->Prop)(e:Env)(h:Heap):Prop:=
 match On code with
 |some (d,b)=>nE e (some d) (Fy m) fun e=>oZ P Γ Λ b (wP rs (I7 K none)) e h
 |none=>oZ P Γ Λ code (wP rs (I7 K m)) e h
def VS(P:Program)(T:List (Nat×bI))(Γ:bR)(Λ:kB):Fw:=fun f a m h K=>EX T f fun t=>cY (Nat.ble a.length t.nt) (VQ P Γ Λ t.code t.rs m K (gh 0 a) h)
end
theorem Oo{P:Program}{op:Op}(h:mb P op= .O6): ∃cl,op= .call cl/\cl.callee= .builtin .recover:=by
 cases op with
 |call cl=>
  refine⟨cl,rfl,?_⟩;revert h;simp only[mb,cond_eq_ite]
  repeat' split
  all_goals intro h
  all_goals first
   |assumption
   |(cases h;done)
 |_=>
  exfalso;revert h;simp only[mb,cond_eq_ite]
  repeat' split
  all_goals intro h
  all_goals first
   |(cases h;done)
   |(cases ‹_=Op.call _›;done)
theorem Fz{P:Program}{n:Nat}{ops:Array Oper}{o:Oper}{p:qj}(hop:(bD P n ops false o).op=p)(hb:p≠ .bad)(hg:(bD P n ops false o).guard=none):
  pI n o=true/\o.guard=none/\(bD P n ops false o).dst=o.dst/\mb P o.op=p:=by
 unfold bD at hop hg ⊢;dsimp only at hop hg ⊢;cases I6:pI n o
 ·rw[I6]at hop;exact absurd hop.symm hb
 ·rw[I6]at hop hg
  simp only[cond_true]at hop hg ⊢;cases qQ:o.guard with
  |none=>rw[qQ]at hop;exact⟨trivial,rfl,rfl,hop⟩
  |some gw=>
   obtain⟨q,want⟩:=gw;rw[qQ]at hop hg;dsimp only at hop hg;split at hop
   ·rename_i t ht
    cases H6:Nat.blt t n
    ·rw[H6]at hop;exact absurd hop.symm hb
    ·rw[ht]at hg
     dsimp only at hg;rw[H6]at hg;cases hg
   ·exact absurd hop.symm hb
theorem LC{code b:bK}{d:Nat}(h:On code=some (d,b)): ∃o fg,code= .seq (.region [o] fg) b/\o.op= .O6/\o.guard=none/\o.dst=some d:=by
 unfold On at h
 repeat' split at h
 all_goals first
  |(cases h;done)
  |(cases h;exact⟨_,_,rfl,by assumption,by assumption,by assumption⟩)
theorem yT{P:Program}{Γ:bR}{Λ:kB}(gd:Γ.Ok P)(oT: ∀b Q e h,Λ b Q e h->dR P b Q e h){f:FuncId}{fn:Func}{code:Code}{ac ab:bK}{d:Nat}{rs:List RV}{args:List SV}{h:Heap}{m:Option SV}{K:Option SV->Heap->Prop}(hm:P.follows .mixedOrders=true)(hf:P.funcs[f]? =some fn)(hb:fn.body=some code)
  (ho:fh ac=true)(hc:erase ac=cB P fn.ntmps code)(Gu:pX P fn.results.toList=some rs)(hn:Nat.ble args.length fn.ntmps=true)(hac:On ac=some (d,ab))
  (hp:oZ P Γ Λ ab (wP rs (I7 K none)) (pJ (gh 0 args) (some d) (Fy m)) h):Fx P f args m h K:=by
 refine⟨fun c w xs u hr hs hv hmr=> ?_⟩;have hn:=Nat.le_of_ble_eq_true hn;obtain⟨ao,fg,rfl,YD,hag,had⟩:=LC hac;have Qv:=Bm hs hn hv;have hsz:(xs++Array.replicate (fn.ntmps-xs.size) undef).size=fn.ntmps:=by simp;omega
 cases code<;>simp only[erase,cB,bK.seq.injEq,reduceCtorEq]at hc
 ·rename_i id ops dr;cases dr<;>simp only[cond_true,cond_false,reduceCtorEq]at hc
 rename_i x y;obtain⟨hx,hy⟩:=hc;cases x<;>simp only[cB,reduceCtorEq]at hx
 rename_i id ops dr;cases dr<;>simp only[cond_true,cond_false,reduceCtorEq,bK.region.injEq,and_true]at hx
 obtain⟨ops⟩:=ops;cases ops with
 |nil=>simp at hx
 |cons o r=>
 cases r with
 |cons _ _=>simp at hx
 |nil=>
 simp only[List.map_cons,List.map_nil,List.cons.injEq,and_true]at hx;subst hx;obtain⟨I6,qQ,eA,SR⟩:=Fz YD (by intro h;cases h) hag;obtain⟨cl,SS,IP⟩:=Oo SR;rw[eA]at had
 have hlt:d<fn.ntmps:=by
  unfold pI at I6;rw[had]at I6;exact Nat.lt_of_succ_le (by simpa[Nat.blt]using I6)
 have hrun: ∀ev,(execOp ev o).run P w= .ok .recover w:=fun ev=>by
  simp[execOp,SS,resolve,IP,invoke,builtin]
 simp only[fh,Bool.and_eq_true]at ho
 have key: ∀(c₀:Frame) (cs:List Frame),c₀.mode=u-> ∃u' x cs',(match recoverD (c₀::cs)with|some (v,cs')=>x=v/\cs'={c₀ with mode:=u'}::cs|none=>x= .nilIface/\u'=u)/\cs'={c₀ with mode:=u'}::cs/\VR c h w (Fy m) x/\MR c h w none (settle u'):=by
  intro c₀ cs hu;cases m with
  |none=>
   cases u<;>try exact hmr.elim
   refine⟨.returning,.nilIface,_,?_,rfl,.pure .dF,trivial⟩;simp[recoverD,hu]
  |some v=>
   obtain⟨x,rfl,mQ⟩:=hmr;refine⟨.panicking [{v:=x,recovered:=true}],x,_,?_,rfl,mQ,trivial⟩;simp[recoverD,hu]
 refine callsD_of_wpS hf hb fun c₀ cs hu=>wpS_seq (wpS_region ?_)
 obtain⟨u',x,cs',Oq,hcs,mQ,YE⟩:=key c₀ cs hu
 have rest: ∀VT,VT={c₀ with mode:=u'}::cs->Exit.thenS (y.wpS P (bodyPostS P fn c₀ cs fun e u' w'=>(∃ x,e= .returned x)/\ ∃c' h' m',K m' h'/\bT c' h' w'/\Ext c h w c' h' w'/\MR c' h' w' m' (settle u')))
   (bodyPostS P fn c₀ cs fun e u' w'=>(∃ x,e= .returned x)/\ ∃c' h' m',K m' h'/\bT c' h' w'/\Ext c h w c' h' w'/\MR c' h' w' m' (settle u')) .normal (Act.put {tmps:=xs++Array.replicate (fn.ntmps-xs.size) undef,defers:=[]} o.dst x) VT w:=by
  intro VT SU;subst SU;refine wpS_of_wp ?_;refine wp_mono (dX (n:=fn.ntmps) gd oT hm y ab _ _ h ho.2 hy hp c w _ hr ?_ ?_) fun ex a' w' hpost=> ?_
  ·rw[had]
   exact ER.put (a:={tmps:=xs++Array.replicate (fn.ntmps-xs.size) undef,defers:=[]}) Qv (fun t ht=>by cases ht;show d<_;rw[hsz];exact hlt) mQ
  ·rw[kr];exact hsz
  ·obtain⟨c',h',e',xx,hq,hr',hx',he',hn',hd',hex⟩:=hpost
   have hd':a'.defers=[]:=by rw[hd',put_defers]
   have fin:(tS rs e' h' fun vs=>match vs with
     | [v]=>I7 K none (.ret v) h'
     |vs=>I7 K none (.ret (.bn vs)) h')->a'.defers=[]/\ ∃Zx,({c₀ with mode:=u'}::cs:List Frame)={c₀ with mode:=Zx}::cs/\ ∃v,(results fn a'.tmps).run P w'= .ok v w'/\(∃ x,Ending.returned v= .returned x)/\ ∃c' h' m',K m' h'/\bT c' h' w'/\Ext c h w c' h' w'/\MR c' h' w' m' (settle Zx):=fun hq=>by
    obtain⟨v,x,hR,hrun,mQ⟩:=mC (P:=P) (fn:=fn) (R:=I7 K none) hr' he' Gu hq;exact⟨hd',u',rfl,x,hrun,⟨x,rfl⟩,c',h',none,hR,hr',hx',YE.mono hr hx'⟩
   cases ex with
   |normal=>cases xx<;>first|exact hex.elim|exact fin hq
   |exit i=>cases xx<;>first|exact hex.elim|exact hq.elim
   |goto l=>cases xx<;>exact hex.elim
   |ret=>cases xx<;>first|exact hex.elim|exact fin hq
   |panic ch=>cases xx<;>first|exact hex.elim|exact hq.elim
   |outgrown=>cases xx<;>exact hex.elim
 have SW:List.range (#[o]:Array Oper).size=[0]:=rfl;show wpOpsS P #[o] _ (List.range (#[o]:Array Oper).size) _ (c₀::cs) w;rw[SW];have h0:(#[o]:Array Oper)[0]? =some o:=rfl;unfold wpOpsS;rw[h0];dsimp only;rw[if_pos (by simp[Region.wanted,qQ]),hrun];dsimp only;cases hrc:recoverD (c₀::cs)with
 |none=>
  rw[hrc]at Oq;obtain⟨rfl,rfl⟩:=Oq;exact rest _ (by cases c₀;cases hu;rfl)
 |some vc=>
  obtain⟨v,VT⟩:=vc;rw[hrc]at Oq;obtain⟨rfl,SU⟩:=Oq;exact rest VT SU
theorem FA{P:Program}{T:List (Nat×bI)}{Γ:bR}{Λ:kB}(hm:P.follows .mixedOrders=true)(hT:jz P T)(gd:Γ.Ok P)(oT: ∀b Q e h,Λ b Q e h->dR P b Q e h):(VS P T Γ Λ).Ok P:=by
 intro f a m h K hp;obtain⟨t,⟨fn,code,hf,hb,ho,hc,hr,hn⟩,hp⟩:=sF hT hp;obtain⟨hl,hp⟩:=ah.1 hp;rw[hn]at hl;unfold VQ at hp;split at hp
 ·rename_i d b hd
  rw[gZ]at hp;exact yT gd oT hm hf hb ho hc hr hl hd hp
 ·exact xH gd oT hm hf hb ho hc hr hl hp
end Ab
namespace Go.Proofs.YtegmnocpkgpgeaaGreatDoor
open Ab Go.RowKit
set_option maxRecDepth 100000
set_option maxHeartbeats 8000000
attribute [local irreducible] aS bH
section
theorem YF(l:List TP): ∀(Im:Nat->Prop) (w:World) (x:Value),VP Im w (Sw (.ok l)) x->VP Im w (.bn [wU l,gO 0 0]) x:=by
 intro Im w x h;cases l with
 |cons _ _=>exact h
 |nil=>
  cases h with
  |bn _ cs hl hh=>
   refine .bn _ cs hl fun i v x a b=> ?_
   match i with
   |0=>
    simp at a;subst a;have:=hh 0 .af x rfl b;cases this
    exact .pE ..
   |i+1=>exact hh (i+1) v x a b
theorem ij{A:Heap}{a b a' b':SV}(h:bA A a a')(k:bA A b b'):bA A (.bn [a,b]) (.bn [a',b']):= .bn rfl fun i u u' h1 h2=>by
 match i with
 |0=>simp at h1 h2;subst h1;subst h2;exact h
 |1=>simp at h1 h2;subst h1;subst h2;exact k
 |i+2=>simp at h1
theorem lq(e a:Int):aL (gO e a):= .agg (by simp only[List.mem_cons,List.not_mem_nil,or_false];rintro _ (rfl|rfl)<;>constructor)
section
variable {l:List TP} {m e:Nat} {G:List UInt8->Prop}
theorem Bn(hl:ig l G):SN l m G 60 (n7 (aO l) l.length (kX bC) (iP l)):=jd fJ fun i hi=>UR.call mixed rfl (by
 have qV:=hl.len;have cn:=gj (m:=m) (e:=0) hl;have q1:=I1 (m:=m) hl;have q2:=IZ (m:=m) hl;have q3:=IY (m:=m) hl;have q4:=IX (m:=m) hl;have q5:=Ly (m:=m) hl;have q6:=Lx (m:=m) hl;iterate 80 all_goals ((try conv=>whnf);try first|(with_reducible first|refine zY ?_|refine zN ?_|refine zT ?_|refine br (fun _=> ?_) (fun _=> ?_)|refine⟨rfl,?_⟩)|(refine sS (e:=0) (fun _ _=> ?_) (fun _=> ?_) (hd:=rfl))|(refine eI (fun _ _=> ?_) (fun _=> ?_))|(refine cn.go (fun x j _ _ _ _=> ?_) (fun er j _ _=> ?_))|(refine q1.go (fun x j _ _ _ _=> ?_) (fun er j _ _=> ?_))|(refine q2.go (fun x j _ _ _ _=> ?_) (fun er j _ _=> ?_))|(refine q3.go (fun x j _ _ _ _=> ?_) (fun er j _ _=> ?_))|(refine q4.go (fun x j _ _ _ _=> ?_) (fun er j _ _=> ?_))|(refine q5.go (fun x j _ _ _ _=> ?_) (fun er j _ _=> ?_))|(refine q6.go (fun x j _ _ _ _=> ?_) (fun er j _ _=> ?_))|(refine gP ?_)|(exact bW (by simp only[n7,aM,bB.then,aO, *,Bool.false_eq_true,↓reduceIte])))
 all_goals first
  |exact bJ (by simp only[n7,aM,bB.then,aO, *,Bool.false_eq_true,↓reduceIte]<;>rfl) (by assumption) (.lit (dL _)) (dL _)
  |exact bJ (by simp only[n7,aM,bB.then,aO, *,Bool.false_eq_true,↓reduceIte]<;>rfl) (.bare (by decide)) (fQ {kind:=_} .nil .nil .nil .nil .nil .nil .nil .nil .nil .nil) (dL _)
  |exact bJ (by simp only[n7,aM,bB.then,aO, *,Bool.false_eq_true,↓reduceIte]<;>rfl) (.named (by decide) (by assumption)) (fQ {kind:=_,name:=_} .nil .nil .nil .nil .nil .nil .nil .nil .nil .nil) (dL _))
theorem xI{i k n:Nat}{L:List (Nat×ai)}{R:bu->Heap->Prop}{z d:Int}(hy:l.length<=i->R (.ret (.bn [])) ⟨n,bt L k (gv l i m e)⟩)(hn:i<l.length->R (.eY (mY 240 (dG l m i))) ⟨n,cE (fun j=>Nat.beq j k) L⟩)
  (ho:ak L k=some (Ll l z m d):=by rfl)(hz:z=(i:Nat):=by with_reducible rfl)(hd:d=(e:Nat):=by with_reducible rfl):aC Tryz.prog 61 [.ref k 0 0 0] ⟨n,L⟩ R:=by
 subst hz;subst hd
 by_cases h:i<l.length
 ·have hd:decide ((i:Int)<(l.length:Int))=true:=decide_eq_true (by omega)
  refine fU.NN (o':=gv l i m e) ⟨fJ,bE ..,bE ..,cR ..,PF.call mixed rfl ?_⟩ ho (hn h);have c:=lA (l:=l) (m:=m) (e:=e) 240 i;iterate 12 all_goals ((try conv=>whnf);try first|(with_reducible first|refine zY ?_|refine zN ?_|refine zT ?_|refine br (fun _=> ?_) (fun _=> ?_)|refine⟨rfl,?_⟩)|(refine c.eY rfl fun h=> ?_))
  exact AW (cR _ _)
 ·have hd:decide ((i:Int)<(l.length:Int))=false:=decide_eq_false (by omega)
  refine fU.call (v:= .bn []) (o':=gv l i m e) ⟨fJ,bE ..,bE ..,.bn (by simp),PF.call mixed rfl ?_⟩ ho (hy (by omega));iterate 12 all_goals ((try conv=>whnf);try first|(with_reducible first|refine zY ?_|refine zN ?_|refine zT ?_|refine br (fun _=> ?_) (fun _=> ?_)|refine⟨rfl,?_⟩))
  exact vi (.lit (.bn (by simp))) rfl
end
end
end Go.Proofs.YtegmnocpkgpgeaaGreatDoor
namespace Go.Proofs.YtegmnocpkgpgeaaGreatDoor
def mH:Nat->List Tk->List (Tk×Nat)
 |_,[]=>[]
 |p,x::r=>(x,p)::mH (p+(cA x).length+1) r
theorem xJ: ∀(l:List Tk) (f p:Nat),(∀ x∈l,cS x=true)->(fV l).length<=f->eN f (fV l) p= .ok (mH p l)
 | [],f,p,_,_=>kD f [] p (by simp)
 | [x],f,p,h,hf=>by
   have hz:=p6 (h x (by simp));obtain⟨c1,c2,_⟩:=jb hz.1;rw[fV]at hf ⊢;obtain⟨f,rfl⟩: ∃g,f=g+1:=⟨f-1,by omega⟩;obtain⟨ho,hb⟩:=hz
   match hs:cA x with
   | []=>rw[hs]at c1;simp at c1
   |c::w=>
    rw[hs]at ho hb;rw[eN,if_neg (by simpa using hb),ho];dsimp only;rw[List.drop_length,kD f [] _ (by simp)];rfl
 |x::y::r,f,p,h,hf=>by
  obtain⟨ho,hb⟩:=p6 (h x (by simp));obtain⟨c1,c2,_⟩:=jb ho;have hR:(fV (x::y::r))=cA x++32::fV (y::r):=rfl;rw[hR]at hf ⊢;simp only[List.length_append,List.length_cons]at hf;have ih:=xJ (y::r) (f-2) (p+(cA x).length+1) (fun z hz=>h z (by simp[hz])) (by omega);obtain⟨f,rfl⟩: ∃g,f=g+2:=⟨f-2,by omega⟩;rw[Nat.add_sub_cancel]at ih
  match hs:cA x with
  | []=>rw[hs]at c1;simp at c1
  |c::w=>
   have he:=Dd (r:=fV (y::r)) ho (c:=32) (by decide);rw[hs]at he hb ih;rw[List.cons_append]at he;rw[List.cons_append,eN,if_neg (by simpa using hb),he];dsimp only;rw[<- List.cons_append,List.drop_left' rfl,eN,if_pos (by decide),ih];rw[mH,mH,mH,hs]
theorem FB{l:List Tk}(h: ∀x∈l,cS x=true):lR (fV l)= .ok (mH 0 l):=xJ l _ 0 h (Nat.le_refl _)
theorem uW: ∀(l:List Tk) (p:Nat),(mH p l).map (·.1)=l
 | [],_=>rfl
 |x::r,p=>by rw[mH,List.map_cons,uW r]
def SX(s:List UInt8):Int:=if s≠[]/\((97<=(s.getD 0 0).toNat/\(s.getD 0 0).toNat<=122)\/(s.getD 0 0).toNat=95)then 1 else 4
def aZ(s:List UInt8):Tk:=⟨SX s,s,0⟩
structure Wa where
 t:List Tk
 bad:Bool
 b:Int
 lit:Bool
structure Ix where
 nm:List UInt8
 aq:List Nat
 To:Bool
structure Tb where
 nm:List UInt8
 aq:List fH
 key:List Nat
 idx:List Ix
def fW(l:List fH)(nm:List UInt8):Option Nat:=l.findIdx? fun c=>c.nm==nm
def iu(l:List Tb)(nm:List UInt8):Option Nat:=l.findIdx? fun t=>t.nm==nm
def n9(l:List Ix)(nm:List UInt8):Bool:=(l.findIdx? fun x=>x.nm==nm).isSome
def dJ(l:List fH):List (List UInt8)->Option (List Nat)
 | []=>some []
 |n::r=>match fW l n,dJ l r with
  |some i,some is=>some (i::is)
  |_,_=>none
def bY(l:List fH)(ns:List (List UInt8)):Except Int (List Nat):=match dJ l ns with
 |none=> .error 4
 |some xs=>if xs.Nodup then .ok xs else .error 9
def kQ(b:Bool)(cs:List fH)(i:Nat):List fH:=match cs[i]? with
 |some c=>cs.set i {c with nn:=b}
 |none=>cs
@[reducible] def rZ:List fH->Nat->List fH:=kQ true
def eX(ts:List Tb)(name:List UInt8)(aq:List fH)(key:List (List UInt8)):Except Int Tb:=
 if 16<=ts.length then .error 3 else
 if(iu ts name).isSome then .error 9 else
 if ¬(aq.map (·.nm)).Nodup then .error 9 else
 match bY aq key with
 | .error e=> .error e
 | .ok key=> .ok ⟨name,key.foldl rZ aq,key,[]⟩
def xK(ts:List Tb)(i:Nat)(x:Ix):List Tb:=match ts[i]? with
 |some t=>ts.set i {t with idx:=t.idx++[x]}
 |none=>ts
def jh(ts:List Tb)(eH nm:List UInt8)(names:List (List UInt8))(u:Bool):Except Int (List Tb):=
 match iu ts eH with
 |none=> .error 4
 |some i=>match ts[i]? with
  |none=> .error 4
  |some t=>
   if 8<=t.idx.length then .error 3 else
   if ts.any (fun t=>n9 t.idx nm)then .error 9 else
   match bY t.aq names with
   | .error e=> .error e
   | .ok l=> .ok (xK ts i ⟨nm,l,u⟩)
def gu(ts:List Tb)(s:Sm):Except Int (List Tb):=
 if s.kind=5 then(match eX ts s.name s.aq s.key with| .error e=> .error e| .ok t=> .ok (ts++[t]))
 else if s.kind=6 then jh ts s.eH s.name s.names s.uniq else .error 2
def qe:List Sm->Nat->List Tb->Except (Int×Nat) (List Tb)
 | [],_,ts=> .ok ts
 |s::r,i,ts=>match gu ts s with
  | .error e=> .error (e,i)
  | .ok ts'=>qe r (i+1) ts'
def bM(T:ld)(len:Nat)(stmt:Nat->bB Sm):Nat->List Sm->Nat->bB (List Sm)
 |0,acc,i=> .ok acc i
 |f+1,acc,i=>if i<len then(if dY T [59] i then bM T len stmt f acc (i+1)else if 64<=acc.length then .bad 3 i else(stmt i).then fun x j=>if dY T [59] j then bM T len stmt f (acc++[x]) (j+1)else if j<len then .bad 240 j else bM T len stmt f (acc++[x]) j)else .ok acc i
end Go.Proofs.YtegmnocpkgpgeaaGreatDoor
