/- Parts of the proof of PParserBlanks, one behind the other, with short names. -/
import Derived.Test.YtbjifmbemdhndaaGreatDoorZ39
import Derived.Test.YtbjifmbemdhndaaGreatDoorZ38
set_option linter.unusedVariables false
set_option linter.unusedSimpArgs false
namespace Go.Proofs.YtbjifmbemdhndaaGreatDoor
open Ab Go.RowKit
set_option maxRecDepth 100000
set_option maxHeartbeats 8000000
attribute [local irreducible] bB cH
section
variable {l:List TP} {m e:Nat}
theorem rD: ∀(vs l pre:List SV),l.length=vs.length->fV (pre++l) pre.length vs=pre++vs
 | [],l,pre,h=>by
   obtain rfl:=List.eq_nil_of_length_eq_zero h;rfl
 |v::vs,[],pre,h=>by simp at h
 |v::vs,x::l,pre,h=>by
  have ih:=rD vs l (pre++[v]) (by simpa using h);rw[fV,List.set_append_right _ _ (Nat.le_refl _)];simpa using ih
theorem DU{cs vs:List SV}{K:List SV->Prop}(h:cs.length=vs.length)(hk:K vs):kM cs 0 vs K:=fy.2 ⟨by omega,by have:=rD vs cs [] h;simp at this;rw[this];exact hk⟩
theorem OO{a b:Bool}{p:Prop}(ha:a=true)(hb:b=true):dO a (dO b p)=p:=by subst ha;subst hb;rfl
theorem hbd(n:Nat):(decide ((0:Int)<=(n:Int))&&decide ((n:Int)<((n+1:Nat):Int)))=true:=by simp;omega
theorem iw{b:Bool}(hb:b=true){es:List SV}{idx:Nat}{cs vs:List SV}{K:List SV->Prop}(hi:idx=es.length)(hl:cs.length=vs.length):
  dO b (match fT (es++[.agg cs]) idx with|some u=>vB u (.agg vs) 0 (fun w'=>vz (es++[.agg cs]) idx w' K)|none=>False)=K (es++[.agg vs]):=by
 subst hb;subst hi
 have e:fT (es++[SV.agg cs]) es.length=some (.agg cs):=by
  rw[ey,List.getElem?_append_right (Nat.le_refl _)];simp
 rw[e];show kM cs 0 vs _=_;have h1:fV cs 0 vs=vs:=by have:=rD vs cs [] hl;simpa using this
 refine propext (fy.trans ?_);rw[h1];show(_/\vz (es++[SV.agg cs]) es.length (SV.agg vs) K)<->_;rw[iM,List.set_append_right _ _ (Nat.le_refl _)];simp;omega
theorem jq{es:List SV}{idx:Nat}{w v:SV}{K:List SV->Prop}(hi:idx=es.length)(hk:K (es++[v])){cs vs:List SV}(hw:w= .agg cs:=by rfl)(hv:v= .agg vs:=by rfl)(hl:cs.length=vs.length:=by rfl):
  (match fT (es++[w]) idx with|some u=>vB u v 0 (fun w'=>vz (es++[w]) idx w' K)|none=>False):=by
 subst hi;subst hw;subst hv
 have e:fT (es++[SV.agg cs]) es.length=some (.agg cs):=by
  rw[ey,List.getElem?_append_right (Nat.le_refl _)];simp
 rw[e];show kM cs 0 vs _;refine DU hl ?_;exact iM.2 ⟨by simp,by rw[List.set_append_right _ _ (Nat.le_refl _)];simpa using hk⟩
@[reducible] def sV (x:Ex):SV:= .agg (Qv x)
theorem qp(x:Ex):bJ (sV x):= .agg (Aa x)
@[reducible] def CG (r:List Ex):SV:=rowOf 9 (r.map sV)
theorem sL(r:List Ex):bJ (CG r):=bx _ _
section
attribute [local irreducible] vF
theorem tU{c0 c1 c2 c3 c4 c5 c6 c7 c8 c9 fQ mh kK iV kf mU c16 hG qy sW lg kg:SV}(hpre: ∀a∈[c0,c1,c2,c3,c4,c5,c6,c7,c8,c9,fQ,mh,kK,iV,kf,mU,c16,hG,qy],bJ a)(hpost: ∀a∈[sW,lg,kg],bJ a):jb (fun v=>mV [c0,c1,c2,c3,c4,c5,c6,c7,c8,c9,fQ,mh,kK,iV,kf,mU,c16,hG,qy,v,sW,lg,kg]):=qo (pre:=[c0,c1,c2,c3,c4,c5,c6,c7,c8,c9,fQ,mh,kK,iV,kf,mU,c16,hG,qy]) (post:=[sW,lg,kg]) hpre hpost
theorem K1{c0 c1 c2 c3 c4 c5 c6 c7 c8 c9 fQ mh kK iV kf mU c16 hG qy sW lg kg:SV}(hl:l.length<=65536)(hpre: ∀a∈[c0,c1,c2,c3,c4,c5,c6,c7,c8,c9,fQ,mh,kK,iV,kf,mU,c16,hG,qy],bJ a)(hpost: ∀a∈[sW,lg,kg],bJ a)(i:Nat)(hi:i<=l.length):aZ Tryz.prog 137 (aT false) ⟨3,[(2,(fun v=>mV [c0,c1,c2,c3,c4,c5,c6,c7,c8,c9,fQ,mh,kK,iV,kf,mU,c16,hG,qy,v,sW,lg,kg]) .ak),(1,lZ),(0,dx l i m 0)]⟩ (Cc l m 0 (fun v=>mV [c0,c1,c2,c3,c4,c5,c6,c7,c8,c9,fQ,mh,kK,iV,kf,mU,c16,hG,qy,v,sW,lg,kg]) 30 9 sV (rm (aq l) (dP aH) i)):=by
 have hX:=ry (m:=m) (e:=0) hl;cases hf:rm (aq l) (dP aH) i with
 |bad er j=>
  have c:=hX.bad hi hf;have sS:=Nat.beq_refl 0;have DV:=Nat.beq_refl (0+1);refine zH.call mixed rfl ?_;iterate 30 all_goals ((try conv=>whnf);try first|(with_reducible first|refine zY ?_|refine zN ?_|refine zT ?_|refine br (fun _=> ?_) (fun _=> ?_)|refine⟨rfl,?_⟩)|(refine c.bO rfl fun h=> ?_))
 |ok x j=>
  have c:=hX.ok hi hf;obtain⟨op,v,tb,nm,slot,kd,args⟩:=x;rw[bt]at c;refine j0 (tU (c0:=c0) (c1:=c1) (c2:=c2) (c3:=c3) (c4:=c4) (c5:=c5) (c6:=c6) (c7:=c7) (c8:=c8) (c9:=c9) (fQ:=fQ) (mh:=mh) (kK:=kK) (iV:=iV) (kf:=kf) (mU:=mU) (c16:=c16) (hG:=hG) (qy:=qy) (sW:=sW) (lg:=lg) (kg:=kg) hpre hpost) qp (zH.call mixed rfl ?_);have sS:=Nat.beq_refl 0;have DV:=Nat.beq_refl (0+1);iterate 30 all_goals ((try conv=>whnf);try first|(with_reducible first|refine zY ?_|refine zN ?_|refine zT ?_|refine br (fun _=> ?_) (fun _=> ?_)|refine⟨rfl,?_⟩)|(refine c.call rfl ?_)|(refine cB rfl (by decide) ?_)|(refine jq (by simp) ?_))
  refine Mz rfl rfl rfl rfl rfl rfl rfl rfl rfl rfl rfl rfl rfl rfl rfl rfl rfl rfl rfl rfl rfl rfl (fun K=>rfl) (fun K=>rfl) (fun K=>rfl) (fun K=>rfl) (fun K=>rfl) (fun K=>rfl) (fun K=>rfl) (fun K=>rfl) (fun K=>rfl) (fun K=>rfl) (fun K=>rfl) (fun K=>rfl) (fun K=>rfl) (fun K=>rfl) (fun K=>rfl) (fun K=>rfl) ?_ ?_ ?_
  ·repeat (first|exact trivial|refine⟨rfl,?_⟩)
  ·repeat (first|exact trivial|refine⟨rfl,?_⟩)
  iterate 8 all_goals ((try conv=>whnf);try first|(with_reducible first|refine zY ?_|refine zN ?_|refine zT ?_|refine br (fun _=> ?_) (fun _=> ?_)|refine⟨rfl,?_⟩))
  exact⟨fun k=>Nat.blt 2 k&& !Nat.beq k 4,_,_,.inl rfl,.refl,rfl,4,by decide,rfl⟩
theorem K2{c0 c1 c2 c3 c4 c5 c6 c7 c8 c9 fQ mh kK iV kf mU c16 hG qy sW lg kg:SV}(hl:l.length<=65536)(hpre: ∀a∈[c0,c1,c2,c3,c4,c5,c6,c7,c8,c9,fQ,mh,kK,iV,kf,mU,c16,hG,qy],bJ a)(hpost: ∀a∈[sW,lg,kg],bJ a)(i:Nat)(hi:i<=l.length){g:Nat}(xs:List _)(hx:xs.length<=1000):aZ Tryz.prog 137 (aT false) ⟨4,[(3,.vec g 9 (xs.map sV) ⟨true,some 30⟩),(2,(fun v=>mV [c0,c1,c2,c3,c4,c5,c6,c7,c8,c9,fQ,mh,kK,iV,kf,mU,c16,hG,qy,v,sW,lg,kg]) (.sl 3 g 9 0 xs.length none)),(1,lZ),(0,dx l i m 0)]⟩ (Cd l m 0 (fun v=>mV [c0,c1,c2,c3,c4,c5,c6,c7,c8,c9,fQ,mh,kK,iV,kf,mU,c16,hG,qy,v,sW,lg,kg]) 30 9 sV g xs (rm (aq l) (dP aH) i)):=by
 have hX:=ry (m:=m) (e:=0) hl;cases hf:rm (aq l) (dP aH) i with
 |bad er j=>
  have c:=hX.bad hi hf;have sS:=Nat.beq_refl g;have DV:=Nat.beq_refl (g+1);refine zH.call mixed rfl ?_;iterate 30 all_goals ((try conv=>whnf);try first|(with_reducible first|refine zY ?_|refine zN ?_|refine zT ?_|refine br (fun _=> ?_) (fun _=> ?_)|refine⟨rfl,?_⟩)|(refine c.bO rfl fun h=> ?_))
 |ok x j=>
  have c:=hX.ok hi hf;obtain⟨op,v,tb,nm,slot,kd,args⟩:=x;rw[bt]at c;refine ke (tU (c0:=c0) (c1:=c1) (c2:=c2) (c3:=c3) (c4:=c4) (c5:=c5) (c6:=c6) (c7:=c7) (c8:=c8) (c9:=c9) (fQ:=fQ) (mh:=mh) (kK:=kK) (iV:=iV) (kf:=kf) (mU:=mU) (c16:=c16) (hG:=hG) (qy:=qy) (sW:=sW) (lg:=lg) (kg:=kg) hpre hpost) qp (zH.call mixed rfl ?_);have sS:=Nat.beq_refl g;have DV:=Nat.beq_refl (g+1);iterate 30 all_goals ((try conv=>whnf);try first|(with_reducible first|refine zY ?_|refine zN ?_|refine zT ?_|refine br (fun _=> ?_) (fun _=> ?_)|refine⟨rfl,?_⟩)|(refine c.call rfl ?_)|(refine bA (by simp) rfl (by decide) rfl (by omega) (by omega) ?_)|(refine jq (by simp) ?_))
  refine Mz (h8:=⟨5,[(4,.vec 0 9 [.agg [.int .u8 0,.int .u8 0,.int .i64 0,.str [],.str [],.str [],.int .i64 0,.int .u8 0,.ak]] ⟨false,some 30⟩),(3,.vec (g+1) 9 (xs.map sV++[.agg [.int .u8 op,.int .u8 v.k,.int .i64 v.i,.str v.s,.str tb,.str nm,.int .i64 slot,.int .u8 kd,mT (iY args)]]) ⟨true,some 30⟩),(2,mV [c0,c1,c2,c3,c4,c5,c6,c7,c8,c9,fQ,mh,kK,iV,kf,mU,c16,hG,qy,.sl 3 g 9 0 xs.length none,sW,lg,kg]),(1,lZ),(0,dx l j m 0)]⟩) (h10:=⟨5,[(4,.vec 0 9 [.agg [.int .u8 0,.int .u8 0,.int .i64 0,.str [],.str [],.str [],.int .i64 0,.int .u8 0,.ak]] ⟨false,some 30⟩),(3,.vec (g+1) 9 (xs.map sV++[.agg [.int .u8 0,.int .u8 0,.int .i64 0,.str [],.str [],.str [],.int .i64 0,.int .u8 0,.ak]]) ⟨true,some 30⟩),(2,mV [c0,c1,c2,c3,c4,c5,c6,c7,c8,c9,fQ,mh,kK,iV,kf,mU,c16,hG,qy,.sl 3 (g+1) 9 0 (xs.length+1) none,sW,lg,kg]),(1,lZ),(0,dx l j m 0)]⟩) (hh:=⟨5,[(4,.vec 0 9 [.agg [.int .u8 0,.int .u8 0,.int .i64 0,.str [],.str [],.str [],.int .i64 0,.int .u8 0,.ak]] ⟨false,some 30⟩),(3,.vec (g+1) 9 (xs.map sV++[.agg [.int .u8 op,.int .u8 v.k,.int .i64 v.i,.str v.s,.str tb,.str nm,.int .i64 slot,.int .u8 kd,mT (iY args)]]) ⟨true,some 30⟩),(2,mV [c0,c1,c2,c3,c4,c5,c6,c7,c8,c9,fQ,mh,kK,iV,kf,mU,c16,hG,qy,.sl 3 (g+1) 9 0 (xs.length+1) none,sW,lg,kg]),(1,lZ),(0,dx l j m 0)]⟩) rfl rfl rfl rfl rfl rfl rfl rfl rfl rfl rfl rfl rfl rfl rfl rfl rfl rfl rfl rfl rfl rfl (fun K=>OO DV (hbd xs.length)) (fun K=>rfl) (by intro K;exact iw DV (es:=xs.map sV) (idx:=0+Int.toNat ((xs.length:Nat):Int)) (by simp) rfl) (fun K=>rfl) (fun K=>rfl) (by intro K;exact iw DV (es:=xs.map sV) (idx:=0+Int.toNat ((xs.length:Nat):Int)) (by simp) rfl) (by intro K;exact iw DV (es:=xs.map sV) (idx:=0+Int.toNat ((xs.length:Nat):Int)) (by simp) rfl) (fun K=>rfl) (fun K=>rfl) (fun K=>OO DV (hbd xs.length)) (by intro K;exact iw DV (es:=xs.map sV) (idx:=0+Int.toNat ((xs.length:Nat):Int)) (by simp) rfl) (fun K=>rfl) (fun K=>rfl) (by intro K;exact iw DV (es:=xs.map sV) (idx:=0+Int.toNat ((xs.length:Nat):Int)) (by simp) rfl) (fun K=>rfl) (fun K=>OO DV (hbd xs.length)) ?_ ?_ ?_
  ·repeat (first|exact trivial|refine⟨rfl,?_⟩)
  ·repeat (first|exact trivial|refine⟨rfl,?_⟩)
  iterate 8 all_goals ((try conv=>whnf);try first|(with_reducible first|refine zY ?_|refine zN ?_|refine zT ?_|refine br (fun _=> ?_) (fun _=> ?_)|refine⟨rfl,?_⟩))
  exact⟨fun k=>Nat.blt 3 k,_,_,.inl rfl,.refl,rfl,rfl⟩
theorem GX{c0 c1 c2 c3 c4 c5 c6 c7 c8 c9 fQ mh kK iV kf mU c16 hG qy sW lg kg:SV}(hl:l.length<=65536)(hpre: ∀a∈[c0,c1,c2,c3,c4,c5,c6,c7,c8,c9,fQ,mh,kK,iV,kf,mU,c16,hG,qy],bJ a)(hpost: ∀a∈[sW,lg,kg],bJ a):oh false 137 l m 0 (fun v=>mV [c0,c1,c2,c3,c4,c5,c6,c7,c8,c9,fQ,mh,kK,iV,kf,mU,c16,hG,qy,v,sW,lg,kg]) 30 9 (rm (aq l) (dP aH)) sV:=
 oh.of (tU (c0:=c0) (c1:=c1) (c2:=c2) (c3:=c3) (c4:=c4) (c5:=c5) (c6:=c6) (c7:=c7) (c8:=c8) (c9:=c9) (fQ:=fQ) (mh:=mh) (kK:=kK) (iV:=iV) (kf:=kf) (mU:=mU) (c16:=c16) (hG:=hG) (qy:=qy) (sW:=sW) (lg:=lg) (kg:=kg) hpre hpost) rfl qp (zX) (fun i hi=>K1 (c0:=c0) (c1:=c1) (c2:=c2) (c3:=c3) (c4:=c4) (c5:=c5) (c6:=c6) (c7:=c7) (c8:=c8) (c9:=c9) (fQ:=fQ) (mh:=mh) (kK:=kK) (iV:=iV) (kf:=kf) (mU:=mU) (c16:=c16) (hG:=hG) (qy:=qy) (sW:=sW) (lg:=lg) (kg:=kg) hl hpre hpost i hi) fun i xs g hi hx=>K2 (c0:=c0) (c1:=c1) (c2:=c2) (c3:=c3) (c4:=c4) (c5:=c5) (c6:=c6) (c7:=c7) (c8:=c8) (c9:=c9) (fQ:=fQ) (mh:=mh) (kK:=kK) (iV:=iV) (kf:=kf) (mU:=mU) (c16:=c16) (hG:=hG) (qy:=qy) (sW:=sW) (lg:=lg) (kg:=kg) hl hpre hpost i hi xs hx
end
theorem MB{l:List SV}{gr:SV}(hg:bJ gr)(h: ∀a∈l,FI a=true\/a=gr:=by simp[FI]): ∀a∈l,bJ a:=fun a ha=>by
 rcases h a ha with h|rfl
 ·exact Cg h
 ·exact hg
theorem js(sX:List CC)(sY:List Src)(wh:Ex){gr:SV}(wR:bJ gr):jb (fun v=>mV (OL 1 [] [] .ak .ak false .ak .ak (rowOf 11 (sX.map sU)) (rowOf 11 (sY.map rC)) wh gr v (-1) .ak)):=qo (pre:=[.int .u8 1,.str [],.str [],.ak,.ak,.bool false,.ak,.ak,(rowOf 11 (sX.map sU)),(rowOf 11 (sY.map rC)),.int .u8 wh.op,.int .u8 wh.va.k,.int .i64 wh.va.i,.str wh.va.s,.str wh.tb,.str wh.nm,.int .i64 wh.slot,.int .u8 wh.kd,mT (iY wh.args),gr]) (post:=[.int .i64 (-1),.ak]) (MB wR) (pX rfl)
theorem K3(sX:List CC)(sY:List Src)(wh:Ex){gr:SV}(hl:l.length<=65536)(wR:bJ gr)(i:Nat)(hi:i<=l.length):aZ Tryz.prog 139 (aT true) ⟨3,[(2,(fun v=>mV (OL 1 [] [] .ak .ak false .ak .ak (rowOf 11 (sX.map sU)) (rowOf 11 (sY.map rC)) wh gr v (-1) .ak)) .ak),(1,lZ),(0,dx l i m 0)]⟩ (Cc l m 0 (fun v=>mV (OL 1 [] [] .ak .ak false .ak .ak (rowOf 11 (sX.map sU)) (rowOf 11 (sY.map rC)) wh gr v (-1) .ak)) 111 10 CD (lY (aq l) (bD l) i)):=by
 unfold lY;have hX:=fL (m:=m) hl;cases hf:bD l i with
 |bad er j=>
  have c:=hX.bad hi hf;refine pO.call mixed rfl ?_;iterate 30 all_goals ((try conv=>whnf);try first|(with_reducible first|refine zY ?_|refine zN ?_|refine zT ?_|refine br (fun _=> ?_) (fun _=> ?_)|refine⟨rfl,?_⟩)|(refine c.bO rfl fun h=> ?_))
 |ok x j=>
  have c:=hX.ok hi hf;obtain⟨op,v,tb,nm,slot,kd,args⟩:=x;rw[bt]at c;dsimp only[aF.then];cases h2:cj (aq l) [97,115,99] j with
  |true=>
   have cg:=bG (m:=m) (e:=0) hl h2;rw[if_pos rfl];refine j0 (js (sX:=sX) (sY:=sY) (wh:=wh) (gr:=gr) wR) lf (pO.call mixed rfl ?_);iterate 40 all_goals ((try conv=>whnf);try first|(with_reducible first|refine zY ?_|refine zN ?_|refine zT ?_|refine br (fun _=> ?_) (fun _=> ?_)|refine⟨rfl,?_⟩)|(refine c.call rfl ?_)|(refine cg.call rfl ?_)|(refine cB rfl (by decide) ?_))
   exact⟨fun k=>Nat.blt 2 k&& !Nat.beq k 5,_,_,.inl rfl,.refl,rfl,5,by decide,rfl⟩
  |false=>
   have cg:=bU (m:=m) (e:=0) hl h2;rw[if_neg (by decide)];cases h3:cj (aq l) [100,101,115,99] j with
   |true=>
    have xM:=bG (m:=m) (e:=0) hl h3;rw[if_pos rfl];refine j0 (js (sX:=sX) (sY:=sY) (wh:=wh) (gr:=gr) wR) lf (pO.call mixed rfl ?_);iterate 40 all_goals ((try conv=>whnf);try first|(with_reducible first|refine zY ?_|refine zN ?_|refine zT ?_|refine br (fun _=> ?_) (fun _=> ?_)|refine⟨rfl,?_⟩)|(refine c.call rfl ?_)|(refine cg.call rfl ?_)|(refine xM.call rfl ?_)|(refine cB rfl (by decide) ?_))
    exact⟨fun k=>Nat.blt 2 k&& !Nat.beq k 5,_,_,.inl rfl,.refl,rfl,5,by decide,rfl⟩
   |false=>
    have xM:=bU (m:=m) (e:=0) hl h3;rw[if_neg (by decide)];refine j0 (js (sX:=sX) (sY:=sY) (wh:=wh) (gr:=gr) wR) lf (pO.call mixed rfl ?_);iterate 40 all_goals ((try conv=>whnf);try first|(with_reducible first|refine zY ?_|refine zN ?_|refine zT ?_|refine br (fun _=> ?_) (fun _=> ?_)|refine⟨rfl,?_⟩)|(refine c.call rfl ?_)|(refine cg.call rfl ?_)|(refine xM.call rfl ?_)|(refine cB rfl (by decide) ?_))
    exact⟨fun k=>Nat.blt 2 k&& !Nat.beq k 5,_,_,.inl rfl,.refl,rfl,5,by decide,rfl⟩
theorem K4(sX:List CC)(sY:List Src)(wh:Ex){gr:SV}(hl:l.length<=65536)(wR:bJ gr)(i:Nat)(hi:i<=l.length){g:Nat}(xs:List _)(hx:xs.length<=1000):aZ Tryz.prog 139 (aT true) ⟨4,[(3,.vec g 10 (xs.map CD) ⟨true,some 111⟩),(2,(fun v=>mV (OL 1 [] [] .ak .ak false .ak .ak (rowOf 11 (sX.map sU)) (rowOf 11 (sY.map rC)) wh gr v (-1) .ak)) (.sl 3 g 10 0 xs.length none)),(1,lZ),(0,dx l i m 0)]⟩ (Cd l m 0 (fun v=>mV (OL 1 [] [] .ak .ak false .ak .ak (rowOf 11 (sX.map sU)) (rowOf 11 (sY.map rC)) wh gr v (-1) .ak)) 111 10 CD g xs (lY (aq l) (bD l) i)):=by
 unfold lY;have hX:=fL (m:=m) hl;cases hf:bD l i with
 |bad er j=>
  have c:=hX.bad hi hf;refine pO.call mixed rfl ?_;iterate 30 all_goals ((try conv=>whnf);try first|(with_reducible first|refine zY ?_|refine zN ?_|refine zT ?_|refine br (fun _=> ?_) (fun _=> ?_)|refine⟨rfl,?_⟩)|(refine c.bO rfl fun h=> ?_))
 |ok x j=>
  have c:=hX.ok hi hf;obtain⟨op,v,tb,nm,slot,kd,args⟩:=x;rw[bt]at c;dsimp only[aF.then];cases h2:cj (aq l) [97,115,99] j with
  |true=>
   have cg:=bG (m:=m) (e:=0) hl h2;rw[if_pos rfl];refine ke (js (sX:=sX) (sY:=sY) (wh:=wh) (gr:=gr) wR) lf (pO.call mixed rfl ?_);iterate 40 all_goals ((try conv=>whnf);try first|(with_reducible first|refine zY ?_|refine zN ?_|refine zT ?_|refine br (fun _=> ?_) (fun _=> ?_)|refine⟨rfl,?_⟩)|(refine c.call rfl ?_)|(refine cg.call rfl ?_)|(refine bA (by simp) rfl (by decide) rfl (by omega) (by omega) ?_))
   exact⟨fun k=>Nat.blt 3 k,_,_,.inl rfl,.refl,rfl,rfl⟩
  |false=>
   have cg:=bU (m:=m) (e:=0) hl h2;rw[if_neg (by decide)];cases h3:cj (aq l) [100,101,115,99] j with
   |true=>
    have xM:=bG (m:=m) (e:=0) hl h3;rw[if_pos rfl];refine ke (js (sX:=sX) (sY:=sY) (wh:=wh) (gr:=gr) wR) lf (pO.call mixed rfl ?_);iterate 40 all_goals ((try conv=>whnf);try first|(with_reducible first|refine zY ?_|refine zN ?_|refine zT ?_|refine br (fun _=> ?_) (fun _=> ?_)|refine⟨rfl,?_⟩)|(refine c.call rfl ?_)|(refine cg.call rfl ?_)|(refine xM.call rfl ?_)|(refine bA (by simp) rfl (by decide) rfl (by omega) (by omega) ?_))
    exact⟨fun k=>Nat.blt 3 k,_,_,.inl rfl,.refl,rfl,rfl⟩
   |false=>
    have xM:=bU (m:=m) (e:=0) hl h3;rw[if_neg (by decide)];refine ke (js (sX:=sX) (sY:=sY) (wh:=wh) (gr:=gr) wR) lf (pO.call mixed rfl ?_);iterate 40 all_goals ((try conv=>whnf);try first|(with_reducible first|refine zY ?_|refine zN ?_|refine zT ?_|refine br (fun _=> ?_) (fun _=> ?_)|refine⟨rfl,?_⟩)|(refine c.call rfl ?_)|(refine cg.call rfl ?_)|(refine xM.call rfl ?_)|(refine bA (by simp) rfl (by decide) rfl (by omega) (by omega) ?_))
    exact⟨fun k=>Nat.blt 3 k,_,_,.inl rfl,.refl,rfl,rfl⟩
theorem yY(sX:List CC)(sY:List Src)(wh:Ex){gr:SV}(hl:l.length<=65536)(wR:bJ gr):oh true 139 l m 0 (fun v=>mV (OL 1 [] [] .ak .ak false .ak .ak (rowOf 11 (sX.map sU)) (rowOf 11 (sY.map rC)) wh gr v (-1) .ak)) 111 10 (lY (aq l) (bD l)) CD:=
 oh.of (js (sX:=sX) (sY:=sY) (wh:=wh) (gr:=gr) wR) rfl lf (tR) (fun i hi=>K3 (sX:=sX) (sY:=sY) (wh:=wh) (gr:=gr) hl wR i hi) fun i xs g hi hx=>K4 (sX:=sX) (sY:=sY) (wh:=wh) (gr:=gr) hl wR i hi xs hx
theorem wS:jb (fun v=> .vec 0 1 [v] ⟨false,some 28⟩):=vn _
theorem OP(hl:l.length<=65536)(i:Nat)(hi:i<=l.length):aZ Tryz.prog 142 (aT false) ⟨3,[(2,(fun v=> .vec 0 1 [v] ⟨false,some 28⟩) .ak),(1,lZ),(0,dx l i m 0)]⟩ (Cc l m 0 (fun v=> .vec 0 1 [v] ⟨false,some 28⟩) 30 9 sV (bD l i)):=by
 have hX:=fL (m:=m) hl;cases hf:bD l i with
 |bad er j=>
  have c:=hX.bad hi hf;have sS:=Nat.beq_refl 0;have DV:=Nat.beq_refl (0+1);refine zJ.call mixed rfl ?_;iterate 30 all_goals ((try conv=>whnf);try first|(with_reducible first|refine zY ?_|refine zN ?_|refine zT ?_|refine br (fun _=> ?_) (fun _=> ?_)|refine⟨rfl,?_⟩)|(refine c.bO rfl fun h=> ?_))
 |ok x j=>
  have c:=hX.ok hi hf;obtain⟨op,v,tb,nm,slot,kd,args⟩:=x;rw[bt]at c;refine j0 (wS) qp (zJ.call mixed rfl ?_);have sS:=Nat.beq_refl 0;have DV:=Nat.beq_refl (0+1);iterate 30 all_goals ((try conv=>whnf);try first|(with_reducible first|refine zY ?_|refine zN ?_|refine zT ?_|refine br (fun _=> ?_) (fun _=> ?_)|refine⟨rfl,?_⟩)|(refine c.call rfl ?_)|(refine cB rfl (by decide) ?_)|(refine jq (by simp) ?_))
  iterate 6
   try
    refine FC ?_ ?_ ?_
    ·repeat (first|exact trivial|refine⟨rfl,?_⟩)
    ·rfl
   iterate 3 all_goals ((try conv=>whnf);try first|(with_reducible first|refine zY ?_|refine zN ?_|refine zT ?_|refine br (fun _=> ?_) (fun _=> ?_)|refine⟨rfl,?_⟩)|(refine jq (by simp) ?_))
  exact⟨fun k=>Nat.blt 2 k&& !Nat.beq k 4,_,_,.inl rfl,.refl,rfl,4,by decide,rfl⟩
theorem OQ(hl:l.length<=65536)(i:Nat)(hi:i<=l.length){g:Nat}(xs:List _)(hx:xs.length<=1000):aZ Tryz.prog 142 (aT false) ⟨4,[(3,.vec g 9 (xs.map sV) ⟨true,some 30⟩),(2,(fun v=> .vec 0 1 [v] ⟨false,some 28⟩) (.sl 3 g 9 0 xs.length none)),(1,lZ),(0,dx l i m 0)]⟩ (Cd l m 0 (fun v=> .vec 0 1 [v] ⟨false,some 28⟩) 30 9 sV g xs (bD l i)):=by
 have hX:=fL (m:=m) hl;cases hf:bD l i with
 |bad er j=>
  have c:=hX.bad hi hf;have sS:=Nat.beq_refl g;have DV:=Nat.beq_refl (g+1);refine zJ.call mixed rfl ?_;iterate 30 all_goals ((try conv=>whnf);try first|(with_reducible first|refine zY ?_|refine zN ?_|refine zT ?_|refine br (fun _=> ?_) (fun _=> ?_)|refine⟨rfl,?_⟩)|(refine c.bO rfl fun h=> ?_))
 |ok x j=>
  have c:=hX.ok hi hf;obtain⟨op,v,tb,nm,slot,kd,args⟩:=x;rw[bt]at c;refine ke (wS) qp (zJ.call mixed rfl ?_);have sS:=Nat.beq_refl g;have DV:=Nat.beq_refl (g+1);iterate 30 all_goals ((try conv=>whnf);try first|(with_reducible first|refine zY ?_|refine zN ?_|refine zT ?_|refine br (fun _=> ?_) (fun _=> ?_)|refine⟨rfl,?_⟩)|(refine c.call rfl ?_)|(refine bA (by simp) rfl (by decide) rfl (by omega) (by omega) ?_)|(refine jq (by simp) ?_))
  iterate 6
   try
    refine FC ?_ ?_ ?_
    ·repeat (first|exact trivial|refine⟨rfl,?_⟩)
    ·rfl
   iterate 3 all_goals ((try conv=>whnf);try first|(with_reducible first|refine zY ?_|refine zN ?_|refine zT ?_|refine br (fun _=> ?_) (fun _=> ?_)|refine⟨rfl,?_⟩)|(refine jq (by simp) ?_))
  exact⟨fun k=>Nat.blt 3 k,_,_,.inl rfl,.refl,rfl,rfl⟩
theorem Ch(hl:l.length<=65536):oh false 142 l m 0 (fun v=> .vec 0 1 [v] ⟨false,some 28⟩) 30 9 (bD l) sV:=
 oh.of (wS) rfl qp (eO) (fun i hi=>OP hl i hi) fun i xs g hi hx=>OQ hl i hi xs hx
theorem Ad(n:List UInt8):jb (fun v=>mV (iZ 3 n [] .ak .ak false .ak .ak .ak .ak .ak .ak 0 v)):=qo (pre:=[.int .u8 3,.str n,.str [],.ak,.ak,.bool false,.ak,.ak,.ak,.ak,.int .u8 0,.int .u8 0,.int .i64 0,.str [],.str [],.str [],.int .i64 0,.int .u8 0,.ak,.ak,.ak,.int .i64 0]) (post:=[]) (pX rfl) (pX rfl)
theorem Sr(n:List UInt8)(hl:l.length<=65536)(i:Nat)(hi:i<=l.length):aZ Tryz.prog 143 (aT true) ⟨3,[(2,(fun v=>mV (iZ 3 n [] .ak .ak false .ak .ak .ak .ak .ak .ak 0 v)) .ak),(1,lZ),(0,dx l i m 0)]⟩ (Cc l m 0 (fun v=>mV (iZ 3 n [] .ak .ak false .ak .ak .ak .ak .ak .ak 0 v)) 115 11 CF (xL (aq l) (dP aH) (bD l) i)):=by
 unfold xL;cases hn:de (aq l) (dP aH) i with
 |bad er j=>
  have cn:=cM (m:=m) (e:=0) hl hn;refine pQ.call mixed rfl ?_;iterate 30 all_goals ((try conv=>whnf);try first|(with_reducible first|refine zY ?_|refine zN ?_|refine zT ?_|refine br (fun _=> ?_) (fun _=> ?_)|refine⟨rfl,?_⟩)|(refine cn.bO rfl fun h=> ?_))
 |ok s j=>
  have cn:=dz (m:=m) (e:=0) hl hn;dsimp only[aF.then];cases h1:cj (aq l) [61] j with
  |false=>
   have cm:=bh (m:=m) (e:=0) hl h1;rw[show aA (aq l) [61] j= .bad 240 j by unfold aA;rw[h1];rfl];refine pQ.call mixed rfl ?_;iterate 40 all_goals ((try conv=>whnf);try first|(with_reducible first|refine zY ?_|refine zN ?_|refine zT ?_|refine br (fun _=> ?_) (fun _=> ?_)|refine⟨rfl,?_⟩)|(refine cn.call rfl ?_)|(refine dy cm rfl rfl rfl fun h=> ?_))
  |true=>
   have cm:=aS (m:=m) (e:=0) hl h1;have hj:=aI h1;rw[show aA (aq l) [61] j= .ok () (j+1) by unfold aA;rw[h1];rfl];dsimp only;have hX:=fL (m:=m) hl;cases hf:bD l (j+1)with
   |bad er k=>
    have c:=hX.bad hj hf;refine pQ.call mixed rfl ?_;iterate 40 all_goals ((try conv=>whnf);try first|(with_reducible first|refine zY ?_|refine zN ?_|refine zT ?_|refine br (fun _=> ?_) (fun _=> ?_)|refine⟨rfl,?_⟩)|(refine cn.call rfl ?_)|(refine aP cm rfl rfl rfl ?_)|(refine c.bO rfl fun h=> ?_))
   |ok x k=>
    have c:=hX.ok hj hf;obtain⟨op,v,tb,nm,slot,kd,args⟩:=x;rw[bt]at c;dsimp only;refine j0 (Ad (n:=n)) sK (pQ.call mixed rfl ?_);iterate 50 all_goals ((try conv=>whnf);try first|(with_reducible first|refine zY ?_|refine zN ?_|refine zT ?_|refine br (fun _=> ?_) (fun _=> ?_)|refine⟨rfl,?_⟩)|(refine cn.call rfl ?_)|(refine aP cm rfl rfl rfl ?_)|(refine c.call rfl ?_)|(refine cB rfl (by decide) ?_))
    exact⟨fun k=>Nat.blt 2 k&& !Nat.beq k 6,_,_,.inl rfl,.refl,rfl,6,by decide,rfl⟩
theorem Ss(n:List UInt8)(hl:l.length<=65536)(i:Nat)(hi:i<=l.length){g:Nat}(xs:List _)(hx:xs.length<=1000):aZ Tryz.prog 143 (aT true) ⟨4,[(3,.vec g 11 (xs.map CF) ⟨true,some 115⟩),(2,(fun v=>mV (iZ 3 n [] .ak .ak false .ak .ak .ak .ak .ak .ak 0 v)) (.sl 3 g 11 0 xs.length none)),(1,lZ),(0,dx l i m 0)]⟩ (Cd l m 0 (fun v=>mV (iZ 3 n [] .ak .ak false .ak .ak .ak .ak .ak .ak 0 v)) 115 11 CF g xs (xL (aq l) (dP aH) (bD l) i)):=by
 unfold xL;cases hn:de (aq l) (dP aH) i with
 |bad er j=>
  have cn:=cM (m:=m) (e:=0) hl hn;refine pQ.call mixed rfl ?_;iterate 30 all_goals ((try conv=>whnf);try first|(with_reducible first|refine zY ?_|refine zN ?_|refine zT ?_|refine br (fun _=> ?_) (fun _=> ?_)|refine⟨rfl,?_⟩)|(refine cn.bO rfl fun h=> ?_))
 |ok s j=>
  have cn:=dz (m:=m) (e:=0) hl hn;dsimp only[aF.then];cases h1:cj (aq l) [61] j with
  |false=>
   have cm:=bh (m:=m) (e:=0) hl h1;rw[show aA (aq l) [61] j= .bad 240 j by unfold aA;rw[h1];rfl];refine pQ.call mixed rfl ?_;iterate 40 all_goals ((try conv=>whnf);try first|(with_reducible first|refine zY ?_|refine zN ?_|refine zT ?_|refine br (fun _=> ?_) (fun _=> ?_)|refine⟨rfl,?_⟩)|(refine cn.call rfl ?_)|(refine dy cm rfl rfl rfl fun h=> ?_))
  |true=>
   have cm:=aS (m:=m) (e:=0) hl h1;have hj:=aI h1;rw[show aA (aq l) [61] j= .ok () (j+1) by unfold aA;rw[h1];rfl];dsimp only;have hX:=fL (m:=m) hl;cases hf:bD l (j+1)with
   |bad er k=>
    have c:=hX.bad hj hf;refine pQ.call mixed rfl ?_;iterate 40 all_goals ((try conv=>whnf);try first|(with_reducible first|refine zY ?_|refine zN ?_|refine zT ?_|refine br (fun _=> ?_) (fun _=> ?_)|refine⟨rfl,?_⟩)|(refine cn.call rfl ?_)|(refine aP cm rfl rfl rfl ?_)|(refine c.bO rfl fun h=> ?_))
   |ok x k=>
    have c:=hX.ok hj hf;obtain⟨op,v,tb,nm,slot,kd,args⟩:=x;rw[bt]at c;dsimp only;refine ke (Ad (n:=n)) sK (pQ.call mixed rfl ?_);iterate 50 all_goals ((try conv=>whnf);try first|(with_reducible first|refine zY ?_|refine zN ?_|refine zT ?_|refine br (fun _=> ?_) (fun _=> ?_)|refine⟨rfl,?_⟩)|(refine cn.call rfl ?_)|(refine aP cm rfl rfl rfl ?_)|(refine c.call rfl ?_)|(refine bA (by simp) rfl (by decide) rfl (by omega) (by omega) ?_))
    exact⟨fun k=>Nat.blt 3 k,_,_,.inl rfl,.refl,rfl,rfl⟩
theorem K5(n:List UInt8)(hl:l.length<=65536):oh true 143 l m 0 (fun v=>mV (iZ 3 n [] .ak .ak false .ak .ak .ak .ak .ak .ak 0 v)) 115 11 (xL (aq l) (dP aH) (bD l)) CF:=
 oh.of (Ad (n:=n)) rfl sK (FH) (fun i hi=>Sr (n:=n) hl i hi) fun i xs g hi hx=>Ss (n:=n) hl i hi xs hx
end
end Go.Proofs.YtbjifmbemdhndaaGreatDoor
