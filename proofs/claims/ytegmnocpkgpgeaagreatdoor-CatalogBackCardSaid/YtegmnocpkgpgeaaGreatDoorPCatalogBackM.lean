/- Rows.CatalogBackCardSaid: the law stagepostlaw15.CatalogBack answers true at every text, its tables laid by the program's text. -/
import Derived.Test.YtegmnocpkgpgeaaGreatDoorZ53
import Derived.Test.YtegmnocpkgpgeaaGreatDoorZ32
import Derived.Test.YtegmnocpkgpgeaaGreatDoorZ45
import Derived.Test.YtegmnocpkgpgeaaGreatDoorZ51
import Derived.Test.YtegmnocpkgpgeaaGreatDoorZ52
import Derived.Test.YtegmnocpkgpgeaaGreatDoorZ19
import Derived.Test.YtegmnocpkgpgeaaGreatDoorProg
import Derived.KernelRfl
import Derived.Test.YtegmnocpkgpgeaaGreatDoorCards
import Derived.Test.YtegmnocpkgpgeaaGreatDoorTie
import Derived.ProofKit
import Derived.OpenShut
import Derived.LaidMore
import Derived.Lay
import Derived.SevenTiedAt
import Derived.Stop.Joined
set_option linter.unusedVariables false
set_option linter.unusedSimpArgs false
namespace Go.Proofs.YtegmnocpkgpgeaaGreatDoor
open Ab Go.RowKit
set_option maxRecDepth 100000
set_option maxHeartbeats 4000000
attribute [local irreducible] aS bH
def ux(toks:List Tk):List TI:=toks.map fun x=>(x,0)
theorem OV{A:Heap}{i g n:Nat}{cap:Option Nat}{toks:List Tk}(ho:A.obj i=some (vQ g toks))(hn:n=toks.length):bA A (.sl i g 4 0 n cap) (Fi (ux toks)):=by
 have e:Fi (ux toks)=wU (Nv toks):=by
  rw[N6];unfold Nv ux;rw[List.map_map];rfl
 rw[e];refine Gz (sk:=⟨true,some 176⟩) ?_ (by rw[hn];unfold Nv;rw[List.length_map]);rw[ho];unfold vQ Nv;rw[List.map_map];rfl
theorem Jr{toks:List Tk}(h: ∀x∈toks,cS x=true):xu (ux toks)= .bn [.str (fV toks),gO 0 0]:=by
 have hb:yO (ux toks) 0=none:=by
  refine xq _ _ fun j hj=> ?_
  have hj':j<toks.length:=by simpa[ux]using hj
  have e:(ux toks).getD j n6=(toks[j],0):=by simp[ux,List.getD,hj']
  rw[e];unfold kH;simp[h _ (List.getElem_mem hj')]
 unfold xu;rw[hb];show SV.bn [.str (fV ((ux toks).map (·.1))),gO 0 0]=_;rw[show (ux toks).map (·.1)=toks by unfold ux;rw[List.map_map];exact List.map_id _]
theorem Ad:kX bC [112,114,105,109,97,114,121]=true:=by decide +kernel
abbrev Wm:Sm->Prop:=GS (kX bC)
theorem OW(l:List TP):dY (aO l) [59] l.length=false:=by
 cases h:dY (aO l) [59] l.length with
 |false=>rfl
 |true=>exact absurd (tZ h) (Nat.lt_irrefl _)
theorem FX{s:Sm}(g:Wm s):iB (pg s)=(s,0,0):=by
 obtain⟨l,h1,h2⟩:=LS g;rw[iB,h1];dsimp only;rw[xT,Jc g Ad h2];dsimp only;rw[DL,OW];exact if_neg (Nat.lt_irrefl _)
theorem Tf(s:Sm):pz s≠[]:=by
 obtain⟨r,h⟩:=xN s;rw[h];simp
theorem OX{s:Sm}(g:Wm s):(pz s).length<=5000:=by
 cases g with
 | @table n aq key h1 h2 h3 h4 h5=>
   have:=yl aq;have:=vR (ns:=key);rw[pz,if_pos rfl];simp only[List.length_cons,List.length_append,fR,List.length_nil];omega
 | @index n tb u names h1 h2 h4 h5=>
   have:=vR (ns:=names);rw[pz,if_neg (by show ¬(6:Int)=5;decide)];cases u<;>simp only[List.length_cons,List.length_append,fR,List.length_nil,Bool.false_eq_true,if_false,if_true]<;>omega
theorem Ae{s:Sm}(g:Wm s){v:SV}(hs:qN s=v)(AP:aL v)(cw:WC 69 [v] false false [] (pz s))(cs:aj Tryz.prog 72 [v,v] (.bool true))(hv: ∃a0 a1 a2 a3 a4 a5 a6 a7 a8 a9 b0 b1 b2 b3 b4 b5 b6 b7 b8 b9 c0 c1 c2,v= .agg [a0,a1,a2,a3,a4,a5,a6,a7,a8,a9,b0,b1,b2,b3,b4,b5,b6,b7,b8,b9,c0,c1,c2]/\cZ [a0,a1,a2,a3,a4,a5,a6,a7,a8,a9,b0,b1,b2,b3,b4,b5,b6,b7,b8,b9,c0,c1,c2]=true):
  aj Tryz.prog 32 [v] (.bn [.str (pg s),.int .i64 0]):=by
 have hf:=xS g
 have ct:=Le (l:=ux (pz s)) (by simpa[ux]using OX g) (fun y hy=>by
  obtain⟨z,hz,rfl⟩:=List.mem_map.1 hy;exact N7 (hf z hz))
 rw[Jr hf]at ct;have ht:=LV g;have cp:=Ox (s:=pg s) (by omega)
 have hpq: ∀u,uq (pg s) u->u= .bn [v,gO 0 0]:=fun u hu=>by
  rw[hu.1,FX g,hs];rfl
 unfold pg at*;refine aG (di AP) (UA.call mixed rfl ?_);obtain⟨a0,a1,a2,a3,a4,a5,a6,a7,a8,a9,b0,b1,b2,b3,b4,b5,b6,b7,b8,b9,c0,c1,c2,rfl,oa⟩:=hv;have ob:(Nat.beq [a0,a1,a2,a3,a4,a5,a6,a7,a8,a9,b0,b1,b2,b3,b4,b5,b6,b7,b8,b9,c0,c1,c2].length 23&&cZ [a0,a1,a2,a3,a4,a5,a6,a7,a8,a9,b0,b1,b2,b3,b4,b5,b6,b7,b8,b9,c0,c1,c2])=true:=oa;iterate 100 all_goals ((try conv=>whnf);try first|(with_reducible first|refine zY ?_|refine zN ?_|refine zT ?_|refine br (fun _=> ?_) (fun _=> ?_)|refine⟨rfl,?_⟩)|(refine cw.N rfl (Tf s) fun g'=> ?_)|(refine aC.C6 (fun j=>Nat.beq j 2) (.mW (OV (toks:=pz s) rfl rfl) .nil) ?_)|with_reducible refine aj.call (ct) ?_|(refine cp.go (fun u hu=> ?_);obtain rfl:=hpq u hu)|with_reducible refine aj.call (cs) ?_)
 exact leaf rfl (tT (.str _) (.int _ _))
theorem Hx{ns:List (List UInt8)}: ∀i,i<(ns.map SV.str).length-> ∃a:List UInt8,(fun j=>(ns.map SV.str).getD j .undef) i= .str a:=fun i hi=>⟨_,ji i (by rw[List.length_map]at hi;exact hi)⟩
theorem MI{cs:List fH}: ∀i,i<(cs.map gQ).length-> ∃(a:List UInt8) (k:Int) (b:Bool),(fun j=>(cs.map gQ).getD j .undef) i= .agg [.str a,.int .u8 k,.bool b]:=fun i hi=>⟨_,_,_,ji i (by rw[List.length_map]at hi;exact hi)⟩
theorem Js{s:Sm}(g:Wm s):aj Tryz.prog 32 [qN s] (.bn [.str (pg s),.int .i64 0]):=by
 have g2:=g;cases g with
 | @table n aq key h1 h2 h3 h4 h5=>
   exact Ae g2 rfl (dL _) (FU (a1:=(0,_)) (a2:=(0,_)) (a3:=(0,_)) (a4:=(0,_)) (a5:=(0,_)) (a6:=(0,_)) (List.length_map ..) (fun i hi=>ji i hi) (fun c hc=>(h2 c hc).2) (by omega) (List.length_map ..) (fun i hi=>ji i hi) (by omega))
    (Ac (by rw[List.length_map];dsimp only;omega) MI (by rw[List.length_map];dsimp only;omega) Hx (Nat.zero_le _) (fun i hi=>absurd hi (Nat.not_lt_zero _))) ⟨_,_,_,_,_,_,_,_,_,_,_,_,_,_,_,_,_,_,_,_,_,_,_,rfl,rfl⟩
 | @index n tb u names h1 h2 h4 h5=>
   exact Ae g2 rfl (dL _) (FV (a1:=(0,_)) (a2:=(0,_)) (a3:=(0,_)) (a4:=(0,_)) (a5:=(0,_)) (a6:=(0,_)) (List.length_map ..) (fun i hi=>ji i hi) (by omega))
    (Ac (Nat.zero_le _) (fun i hi=>absurd hi (Nat.not_lt_zero _)) (Nat.zero_le _) (fun i hi=>absurd hi (Nat.not_lt_zero _)) (by rw[List.length_map];dsimp only;omega) Hx) ⟨_,_,_,_,_,_,_,_,_,_,_,_,_,_,_,_,_,_,_,_,_,_,_,rfl,rfl⟩
theorem tu(a b:List Sm):gy (a++b)=gy a++gy b:=by unfold gy;rw[List.flatMap_append]
theorem Jt{ss:List Sm}{j:Nat}(h:j<ss.length):gy (ss.take (j+1))=gy (ss.take j)++(pg ss[j]++[32,59,10]):=by
 rw[vP h,tu];unfold gy;rw[List.flatMap_cons,List.flatMap_nil,List.append_nil]
structure ZJ(v:SV)(n:Nat)(l:List (Nat×ai))(o:List UInt8):Prop where
 b0:ak l 0=some (jm v)
 Xd:yg l 1 o
 n2:2<=n
 lt: ∀j p,ak l j=some p->j<n
theorem D4{c:List Tb}(g:Qc c)(yp:(c.flatMap cV).length<=64):Ec (gy (c.flatMap cV))= .ok c:=by
 have gs: ∀s∈c.flatMap cV,Wm s:=fun s hs=>by
  obtain⟨t,ht,hs⟩:=List.mem_flatMap.1 hs;exact uo (g.tb t ht) s hs
 obtain⟨l,h1,h2⟩:=LU gs
 have hsc:cN (gy (c.flatMap cV))=(c.flatMap cV,0,0):=by
  rw[cN,h1];dsimp only;rw[vI,Jd gs Ad yp h2]
 unfold Ec;rw[hsc];exact DI (c1:=[]) g
theorem MJ{c:List Tb}{nT:Nat}{gT:Nat->SV}(g:Qc c)(yp:(c.flatMap cV).length<=64)(hnT:nT=c.length)(YU: ∀i (hi:i<c.length),gT i=BB (1+i) c[i])(D5:SV.agg [.aW 5 nT gT]=qf c):
  aj Tryz.prog 8 [.agg [.aW 5 nT gT]] (.bn [.str (gy (c.flatMap cV)),.int .i64 0]):=by
 have Aw:=G7 g;have co:=FT Aw;rw[D4 g yp]at co;have hle:=g.le
 have cs:=ME (c:=c) (by omega) fun t ht=>by
  have gt:=g.tb t ht;exact⟨by have:=gt.le;omega,by have:=gt.VU;omega,by have:=gt.Ou;omega,fun x hx=>by have:=(gt.idx x hx).le;omega⟩
 unfold S9 at co;dsimp only at co;rw[<- D5]at co cs;clear D5;refine aG (di (.agg (dP rfl))) (X9.call mixed rfl ?_);subst hnT;iterate 30 all_goals ((try conv=>whnf);try first|(with_reducible first|refine zY ?_|refine zN ?_|refine zT ?_|refine br (fun _=> ?_) (fun _=> ?_)|refine⟨rfl,?_⟩))
 refine iq (σ:={y:Nat×Nat×List (Nat×ai) // y.1<=c.length/\ZJ (.aW 5 c.length gT) y.2.1 y.2.2 (gy ((c.take y.1).flatMap cV))}) false (fun y=>[(0,.agg [.aW 5 c.length gT]),(1,.ref 0 0 0 0),(2,.str []),(3,.int .i64 0),(4,.ref (0+1) 0 0 0),(16,.aW 5 c.length gT),(17,.int .i64 c.length),(18,.int .i64 (y.1.1:Nat))])
  (fun y=>⟨y.1.2.1,y.1.2.2⟩) (fun y=>c.length-y.1.1) ?_ ⟨(0,2,[(1,Ta),(0,jm (.aW 5 c.length gT))]),Nat.zero_le _,rfl,.nil rfl,Nat.le_refl _,fun j p hj=>by
   unfold ak at hj;split at hj
   ·show j<2;omega
   ·unfold ak at hj
    split at hj
    ·show j<2;omega
    ·cases hj⟩
 rintro⟨⟨i,n,l⟩,hi,hT⟩;dsimp only at hi hT ⊢;have e7:IntKind.i64.wrap ((i:Int)+1)=((i+1:Nat):Int):=bf (by omega);have et:=Int.toNat_natCast i;by_cases hil:i<c.length
 ·have hd:decide ((i:Int)<(c.length:Int))=true:=decide_eq_true (by omega)
  have hb:(decide (0<=(i:Int))&&decide ((i:Int)<(c.length:Int)))=true:=by simp only[Bool.and_eq_true,decide_eq_true_eq];omega
  have eg:gT (i:Int).toNat=BB (1+i) c[i]:=by rw[et];exact YU _ hil
  have gt:=g.tb _ (List.getElem_mem hil);have hts:=vP hil;generalize c[i]=t at*
  obtain⟨gC,gX,gI,hv,DS,Mr,Wh⟩: ∃gC gX gI,BB (1+i) t=DZ t.nm (1+i) t.aq.length t.key.length t.idx.length gC gX gI/\(∀ i (hi:i<t.aq.length),gC i=gQ t.aq[i])/\(∀ i (hi:i<t.key.length),gX i=gA t.key[i])/\ ∀i (hi:i<t.idx.length),gI i=Jg (1+i) t.idx[i]:=by
   refine⟨fun j=>(t.aq.map gQ).getD j .undef,fun j=>(t.key.map gA).getD j .undef,fun j=>(j4 1 t.idx).getD j .undef,?_,fun i hi=>ji i hi,fun i hi=>ji i hi,fun i hi=> ?_⟩
   ·show SV.agg [_,_,.aW 3 (t.aq.map gQ).length _,.aW 1 (t.key.map gA).length _,.aW 4 (j4 1 t.idx).length _]=_
    rw[List.length_map,List.length_map,jl]
   ·show(j4 1 t.idx).getD i .undef=_
    rw[List.getD,tj hi];rfl
  rw[hv]at eg;have ct:=My (k:=1+i) gt rfl DS rfl Mr rfl Wh;have Nh:=uo gt;have hS:(cV t).length<=9:=by unfold cV;rw[List.length_cons,List.length_map];have:=gt.Ou;omega
  generalize hss:cV t=ss at*;obtain⟨gS,hgS,pq⟩: ∃gS,FM ss= .aW 23 ss.length gS/\ ∀i (hi:i<ss.length),gS i=qN ss[i]:=⟨fun j=>(ss.map qN).getD j .undef,by show SV.aW 23 (ss.map qN).length _=_;rw[List.length_map],fun i hi=>ji i hi⟩;rw[hgS]at ct;obtain⟨b0,Xd,n2,hlt⟩:=hT;have hn0:Nat.beq n 0=false:=cu (by omega);have wB:Nat.beq n 1=false:=cu (by omega);have hnn:=Nat.beq_refl n
  have Wn:gy ((c.take (i+1)).flatMap cV)=gy ((c.take i).flatMap cV)++gy ss:=by
   rw[hts,List.flatMap_append,List.flatMap_cons,List.flatMap_nil,List.append_nil,tu,hss]
  have hol:(gy ((c.take i).flatMap cV)).length+(gy ss).length<=65536:=by
   rw[<- List.length_append,<-Wn];refine Nat.le_trans ?_ Aw
   conv=>rhs;rw[<- List.take_append_drop (i+1) c]
   rw[List.flatMap_append,tu,List.length_append];exact Nat.le_add_right _ _
  generalize gy ((c.take i).flatMap cV)=o at*;iterate 60 all_goals ((try conv=>whnf);try first|(with_reducible first|refine zY ?_|refine zN ?_|refine zT ?_|refine br (fun _=> ?_) (fun _=> ?_)|refine⟨rfl,?_⟩)|(rewrite [eg])|(refine ct.call ?_))
  refine iq (σ:={y:Nat×Nat×List (Nat×ai) // y.1<=ss.length/\n<=y.2.1/\ZJ (.aW 5 c.length gT) y.2.1 y.2.2 (o++gy (ss.take y.1))}) false (fun y=>[(0,.agg [.aW 5 c.length gT]),(1,.ref 0 0 0 0),(2,.str []),(3,.int .i64 0),(4,.ref (0+1) 0 0 0),(16,.aW 5 c.length gT),(17,.int .i64 c.length),(18,.int .i64 (i:Nat)),(19,.bool true),(6,.ref n 0 0 0),(7,.aW 23 ss.length gS),(8,.bool true),(28,.bool false),(29,.aW 23 ss.length gS),(30,.int .i64 ss.length),(31,.int .i64 (y.1.1:Nat))])
   (fun y=>⟨y.1.2.1,y.1.2.2⟩) (fun y=>ss.length-y.1.1) ?_ ⟨(0,n+1,(n,Mu (DZ t.nm (1+i) t.aq.length t.key.length t.idx.length gC gX gI))::l),Nat.zero_le _,Nat.le_succ n,(aU (by omega)).trans b0,(by rw[show gy (ss.take 0)=[] from rfl,List.append_nil];exact Xd.mono fun j p hj=>(aU (by have:=hlt _ _ hj;omega)).trans hj),by dsimp only;omega,tg hlt (by dsimp only;omega)⟩
  rintro⟨⟨j,N,L⟩,hj,Xc,hT⟩;dsimp only at hj Xc hT ⊢;obtain⟨c0,YV,N2,ZK⟩:=hT;have f7:IntKind.i64.wrap ((j:Int)+1)=((j+1:Nat):Int):=bf (by omega);have ft:=Int.toNat_natCast j;have hN0:Nat.beq N 0=false:=cu (by omega);have Yd:Nat.beq N 1=false:=cu (by omega);have hNN:=Nat.beq_refl N;by_cases hjl:j<ss.length
  ·have iR:decide ((j:Int)<(ss.length:Int))=true:=decide_eq_true (by omega)
   have D7:(decide (0<=(j:Int))&&decide ((j:Int)<(ss.length:Int)))=true:=by simp only[Bool.and_eq_true,decide_eq_true_eq];omega
   have Wf:gS (j:Int).toNat=qN ss[j]:=by rw[ft];exact pq _ hjl
   have cp:=Js (Nh _ (List.getElem_mem hjl));have ZL:=Jt hjl
   have Wo:(gy (ss.take (j+1))).length<=(gy ss).length:=by
    conv=>rhs;rw[<- List.take_append_drop (j+1) ss]
    rw[tu,List.length_append];exact Nat.le_add_right _ _
   generalize ss[j]=sm at*;obtain⟨a0,a1,a2,a3,a4,a5,a6,a7,a8,a9,b1,b2,b3,b4,b5,b6,b7,b8,b9,Lt,d0,d1,d2,V3,oa⟩: ∃a0 a1 a2 a3 a4 a5 a6 a7 a8 a9 b1 b2 b3 b4 b5 b6 b7 b8 b9 Lt d0 d1 d2,qN sm= .agg [a0,a1,a2,a3,a4,a5,a6,a7,a8,a9,b1,b2,b3,b4,b5,b6,b7,b8,b9,Lt,d0,d1,d2]/\(Nat.beq [a0,a1,a2,a3,a4,a5,a6,a7,a8,a9,b1,b2,b3,b4,b5,b6,b7,b8,b9,Lt,d0,d1,d2].length 23&&cZ [a0,a1,a2,a3,a4,a5,a6,a7,a8,a9,b1,b2,b3,b4,b5,b6,b7,b8,b9,Lt,d0,d1,d2])=true:=⟨_,_,_,_,_,_,_,_,_,_,_,_,_,_,_,_,_,_,_,_,_,_,_,rfl,rfl⟩;rw[V3]at Wf cp;rw[ZL,List.length_append]at Wo;have hsl:decide ((pg sm).length+[32,59,10].length<=9223372036854775807)=true:=decide_eq_true (by simp only[List.length_append,List.length_cons,List.length_nil]at Wo ⊢;omega);have hws:=fun(x:ai) (R:bu->Heap->Prop) (k:Nat) (hk: ∀m' l',k<=m'->yg l' 1 (o++gy (ss.take (j+1)))->ak l' 0=some (jm (.aW 5 c.length gT))->(∀ j p,ak l' j=some p->j<m')->R (.ret (.bn [.int .i64 (pg sm++[32,59,10]).length,.dF])) ⟨m',l'⟩)=>ON (m:=k) (R:=R) (l:=(N,x)::L) (s:=pg sm++[32,59,10]) (YV.mono fun j p hj=>(aU (by have:=ZK _ _ hj;omega)).trans hj) (by simp) (by rw[List.length_append];omega) (fun m' l' hm hB hsame hl=>hk m' l' hm (by rw[ZL,<-List.append_assoc];exact hB) (hsame _ _ ((aU (by omega)).trans c0) (by decide) Ho) hl)
   iterate 60 all_goals ((try conv=>whnf);try first|(with_reducible first|refine zY ?_|refine zN ?_|refine zT ?_|refine br (fun _=> ?_) (fun _=> ?_)|refine⟨rfl,?_⟩)|(rewrite [Wf])|(refine cp.call ?_)|(refine hws _ _ _ (fun m' l' hm hB h0 hl=> ?_)))
   refine⟨fun _=>false,_,_,m',by omega,bh,(by rw[l8];exact .refl),mJ ?_⟩;iterate 14 all_goals ((try conv=>whnf);try first|(with_reducible first|refine zY ?_|refine zN ?_|refine zT ?_|refine br (fun _=> ?_) (fun _=> ?_)|refine⟨rfl,?_⟩))
   exact⟨⟨(j+1,m',l'),hjl,by dsimp only;omega,h0,hB,by dsimp only;omega,hl⟩,by dsimp only;omega,by rw[f7],rfl⟩
  ·have iR:decide ((j:Int)<(ss.length:Int))=false:=decide_eq_false (by omega)
   obtain rfl:j=ss.length:=by omega
   rw[List.take_length,<-Wn]at YV;iterate 40 all_goals ((try conv=>whnf);try first|(with_reducible first|refine zY ?_|refine zN ?_|refine zT ?_|refine br (fun _=> ?_) (fun _=> ?_)|refine⟨rfl,?_⟩))
   refine⟨fun _=>false,_,_,N,Xc,bh,(by rw[l8];exact .refl),mJ ?_⟩;iterate 14 all_goals ((try conv=>whnf);try first|(with_reducible first|refine zY ?_|refine zN ?_|refine zT ?_|refine br (fun _=> ?_) (fun _=> ?_)|refine⟨rfl,?_⟩))
   exact⟨⟨(i+1,N,L),hil,c0,YV,N2,ZK⟩,by dsimp only;omega,by rw[e7],rfl⟩
 ·have hd:decide ((i:Int)<(c.length:Int))=false:=decide_eq_false (by omega)
  obtain rfl:i=c.length:=by omega
  rw[List.take_length]at hT;obtain⟨b0,Xd,n2,hlt⟩:=hT;have hlen:(gy (c.flatMap cV)).length<=140737488355328:=by omega
  iterate 60 all_goals ((try conv=>whnf);try first|(with_reducible first|refine zY ?_|refine zN ?_|refine zT ?_|refine br (fun _=> ?_) (fun _=> ?_)|refine⟨rfl,?_⟩)|(refine MA Xd hlen b0 n2 (fun m' l' hm hB h0 hl q1 q2 q3 q4 q5 q6=> ?_))|(refine co.call ?_)|(refine cs.call ?_)|(refine aH h0 ?_)|(refine MB (hB.mono fun j p hj=>(aU (by have:=hl _ _ hj;omega)).trans ((aU (by have:=hl _ _ hj;omega)).trans hj)) (fun m2 l2 _=> ?_)))
  exact leaf rfl (tT (.str _) (.int _ _))
theorem Af{c:List Tb}(g:Qc c)(yp:(c.flatMap cV).length<=64):aj Tryz.prog 8 [qf c] (.bn [.str (gy (c.flatMap cV)),.int .i64 0]):=
 MJ (gT:=fun j=>(oP 1 c).getD j .undef) g yp jk (fun i hi=>by show(oP 1 c).getD i .undef=_;rw[List.getD,oQ hi];rfl) rfl
theorem Ag{c:List Tb}(g:Qc c)(yp:(c.flatMap cV).length<=64):aj Tryz.prog 10 [qf c] (.int .i64 0):=by
 have ct:=Af g yp;refine aG (di (.agg (dP rfl))) (Ue.call mixed rfl ?_);iterate 40 all_goals ((try conv=>whnf);try first|(with_reducible first|refine zY ?_|refine zN ?_|refine zT ?_|refine br (fun _=> ?_) (fun _=> ?_)|refine⟨rfl,?_⟩)|(refine ct.call ?_))
 exact leaf rfl (.int _ _)
theorem qi{t:Tb}{k:Nat}(g:LF (kX bC) t)(hx:(t.idx.map (·.nm)).Nodup)(hk:1<=k/\k<=16):aj Tryz.prog 12 [BB k t] (.int .i64 0):=by
 have gc:Qc [t]:=⟨fun u hu=>by rw[List.mem_singleton.1 hu];exact g,by simp,by simpa using hx,by simp⟩
 have hl:([t].flatMap cV).length<=64:=by
  simp only[List.flatMap_cons,List.flatMap_nil,List.append_nil,cV,List.length_cons,List.length_map];have:=g.Ou;omega
 have ct:=Ag gc hl;have h1:decide ((k:Int)<1)=false:=decide_eq_false (by omega);have h2:decide ((k:Int)>16)=false:=decide_eq_false (by omega);refine aG (di (.agg (dP rfl))) (Ug.call mixed rfl ?_);iterate 60 all_goals ((try conv=>whnf);try first|(with_reducible first|refine zY ?_|refine zN ?_|refine zT ?_|refine br (fun _=> ?_) (fun _=> ?_)|refine⟨rfl,?_⟩)|(refine aC.C6 (fun j=>Nat.beq j 2) (.mW (fI.get (.cons ?_ .nil)) .nil) (ct.call ?_)))
 all_goals first
  |exact leaf rfl (.int _ _)
  |exact dH (vs:=oP 1 [t]) (sk:=⟨false,some 39⟩) rfl rfl (fun v hv=>by rw[List.mem_singleton.1 hv];exact .agg (dP rfl))
theorem Ah{n:Nat}{g:Nat->SV}(hn:n<=100000)(hg: ∀i,i<n-> ∃k:Int,g i= .int .i64 k):aj Tryz.prog 80 [.aW 1 n g,.aW 1 n g] (.bool true):=by
 refine aG (cP (.aW _ _ _) (.aW _ _ _)) (Vf.call mixed rfl ?_);have h1:((n:Int)!=(n:Int))=false:=by simp
 iterate 20 all_goals ((try conv=>whnf);try first|(with_reducible first|refine zY ?_|refine zN ?_|refine zT ?_|refine br (fun _=> ?_) (fun _=> ?_)|refine⟨rfl,?_⟩))
 refine dz (σ:={i:Nat // i<=n}) (fun y=>[(0,.aW 1 n g),(1,.aW 1 n g),(4,.bool false),(10,.bool false),(5,.int .i64 ((y.1:Nat):Int))])
  (fun _=>⟨0,[]⟩) (fun y=>n-y.1) (fun _=>0) (fun _=>Nat.le_refl 0) ?_ ⟨0,Nat.zero_le _⟩
 rintro⟨i,hi⟩;dsimp only;have e7:IntKind.i64.wrap ((i:Int)+1)=((i+1:Nat):Int):=bf (by omega);have et:=Int.toNat_natCast i;by_cases hil:i<n
 ·have hd:decide ((i:Int)<(n:Int))=true:=decide_eq_true (by omega)
  have hb:(decide (0<=(i:Int))&&decide ((i:Int)<(n:Int)))=true:=by simp only[Bool.and_eq_true,decide_eq_true_eq];omega
  obtain⟨k,ea⟩:=hg i hil;rw[<- et]at ea;have h2:(k !=k)=false:=by simp
  iterate 80 all_goals ((try conv=>whnf);try first|(with_reducible first|refine zY ?_|refine zN ?_|refine zT ?_|refine br (fun _=> ?_) (fun _=> ?_)|refine⟨rfl,?_⟩)|(rewrite [ea]))
  exact⟨⟨i+1,hil⟩,by dsimp only;omega,by rw[e7],rfl⟩
 ·have hd:decide ((i:Int)<(n:Int))=false:=decide_eq_false (by omega)
  obtain rfl:i=n:=by omega
  iterate 20 all_goals ((try conv=>whnf);try first|(with_reducible first|refine zY ?_|refine zN ?_|refine zT ?_|refine br (fun _=> ?_) (fun _=> ?_)|refine⟨rfl,?_⟩))
  exact leaf rfl (.bool _)
@[reducible] def D6 (nm:List UInt8) (k nC nX nI:Nat) (gC gX gI:Nat->SV):SV:= .agg [.str nm,.int .i64 k,.aW 3 nC gC,.aW 1 nX gX,.aW 4 nI gI]
@[reducible] def OY (v:SV):ai:= .vec 0 5 [v] ⟨false,some 39⟩
theorem FY{nm:List UInt8}{k nC nX nI:Nat}{gC gX gI:Nat->SV}(hC:nC<=1000)(DS: ∀i,i<nC-> ∃(a:List UInt8) (k:Int) (b:Bool),gC i= .agg [.str a,.int .u8 k,.bool b])(hX:nX<=1000)(Mr: ∀i,i<nX-> ∃k:Int,gX i= .int .i64 k)
  (hI:nI<=1000)(Wh: ∀i,i<nI-> ∃(a:List UInt8) (k:Int) (m:Nat) (gm:Nat->SV) (u:Bool),gI i= .agg [.str a,.int .i64 k,.aW 1 m gm,.bool u]/\m<=1000/\ ∀j,j<m-> ∃k:Int,gm j= .int .i64 k):
  aj Tryz.prog 36 [D6 nm k nC nX nI gC gX gI,D6 nm k nC nX nI gC gX gI] (.bool true):=by
 have cx:=Ah (by omega) Mr;have q1:(nm !=nm)=false:=by simp
 have q1':(!nm==nm)=false:=by simp
 have q2:((k:Int)!=(k:Int))=false:=by simp
 have q3:((nC:Int)!=(nC:Int))=false:=by simp
 have q4:((nI:Int)!=(nI:Int))=false:=by simp
 refine aG (cP (.agg (dP rfl)) (.agg (dP rfl))) (UE.call mixed rfl ?_);iterate 60 all_goals ((try conv=>whnf);try first|(with_reducible first|refine zY ?_|refine zN ?_|refine zT ?_|refine br (fun _=> ?_) (fun _=> ?_)|refine⟨rfl,?_⟩)|(refine cx.call ?_))
 refine dz (σ:={i:Nat // i<=nC}) (fun y=>[(0,D6 nm k nC nX nI gC gX gI),(0+1,D6 nm k nC nX nI gC gX gI),(2,.ref 0 0 0 0),(3,.ref (0+1) 0 0 0),(4,.bool false),(46,.bool false),(5,.int .i64 ((y.1:Nat):Int))])
  (fun _=>⟨2,[(1,OY (D6 nm k nC nX nI gC gX gI)),(0,OY (D6 nm k nC nX nI gC gX gI))]⟩) (fun y=>nC-y.1) (fun _=>2) (fun _=>Nat.le_refl 2) ?_ ⟨0,Nat.zero_le _⟩
 rintro⟨i,hi⟩;dsimp only;have e7:IntKind.i64.wrap ((i:Int)+1)=((i+1:Nat):Int):=bf (by omega);have et:=Int.toNat_natCast i;by_cases hil:i<nC
 ·have hd:decide ((i:Int)<(nC:Int))=true:=decide_eq_true (by omega)
  have hb:(decide (0<=(i:Int))&&decide ((i:Int)<(nC:Int)))=true:=by simp only[Bool.and_eq_true,decide_eq_true_eq];omega
  obtain⟨a,c,u,ea⟩:=DS i hil;rw[<- et]at ea;have h5:(!(fun q=>a==a&&q) ((fun q=>c==c&&q) (u==u)))=false:=by simp
  iterate 80 all_goals ((try conv=>whnf);try first|(with_reducible first|refine zY ?_|refine zN ?_|refine zT ?_|refine br (fun _=> ?_) (fun _=> ?_)|refine⟨rfl,?_⟩)|(rewrite [ea]))
  exact⟨⟨i+1,hil⟩,by dsimp only;omega,by rw[e7],rfl⟩
 ·have hd:decide ((i:Int)<(nC:Int))=false:=decide_eq_false (by omega)
  obtain rfl:i=nC:=by omega
  iterate 20 all_goals ((try conv=>whnf);try first|(with_reducible first|refine zY ?_|refine zN ?_|refine zT ?_|refine br (fun _=> ?_) (fun _=> ?_)|refine⟨rfl,?_⟩))
  refine dz (σ:={j:Nat // j<=nI}) (fun y=>[(0,D6 nm k i nX nI gC gX gI),(0+1,D6 nm k i nX nI gC gX gI),(2,.ref 0 0 0 0),(3,.ref (0+1) 0 0 0),(4,.bool false),(46,.bool false),(5,.int .i64 i),(51,.bool false),(6,.int .i64 ((y.1:Nat):Int))])
   (fun _=>⟨2,[(1,OY (D6 nm k i nX nI gC gX gI)),(0,OY (D6 nm k i nX nI gC gX gI))]⟩) (fun y=>nI-y.1) (fun _=>2) (fun _=>Nat.le_refl 2) ?_ ⟨0,Nat.zero_le _⟩
  rintro⟨j,hj⟩;dsimp only;have e7:IntKind.i64.wrap ((j:Int)+1)=((j+1:Nat):Int):=bf (by omega);have et:=Int.toNat_natCast j;by_cases hjl:j<nI
  ·have iR:decide ((j:Int)<(nI:Int))=true:=decide_eq_true (by omega)
   have D7:(decide (0<=(j:Int))&&decide ((j:Int)<(nI:Int)))=true:=by simp only[Bool.and_eq_true,decide_eq_true_eq];omega
   obtain⟨a,c,m,gm,u,ea,hm,hgm⟩:=Wh j hjl;rw[<- et]at ea;have cm:=Ah (by omega) hgm;have p1:(a !=a)=false:=by simp
   have p1':(!a==a)=false:=by simp
   have p2:(c !=c)=false:=by simp
   have p3:(u !=u)=false:=by simp
   have p3':(!(u==u))=false:=by simp
   iterate 120 all_goals ((try conv=>whnf);try first|(with_reducible first|refine zY ?_|refine zN ?_|refine zT ?_|refine br (fun _=> ?_) (fun _=> ?_)|refine⟨rfl,?_⟩)|(rewrite [ea])|(refine cm.call ?_)|(refine au (fP rfl) ?_))
   exact⟨⟨j+1,hjl⟩,by dsimp only;omega,by rw[e7],rfl⟩
  ·have iR:decide ((j:Int)<(nI:Int))=false:=decide_eq_false (by omega)
   obtain rfl:j=nI:=by omega
   iterate 20 all_goals ((try conv=>whnf);try first|(with_reducible first|refine zY ?_|refine zN ?_|refine zT ?_|refine br (fun _=> ?_) (fun _=> ?_)|refine⟨rfl,?_⟩))
   exact leaf rfl (.bool _)
theorem Ju{n:Nat}{g:Nat->SV}(hn:n<=1000)(hg: ∀i,i<n-> ∃nm k nC nX nI gC gX gI,g i=D6 nm k nC nX nI gC gX gI/\aj Tryz.prog 36 [D6 nm k nC nX nI gC gX gI,D6 nm k nC nX nI gC gX gI] (.bool true)):
  aj Tryz.prog 9 [.agg [.aW 5 n g],.agg [.aW 5 n g]] (.bool true):=by
 have q1:((n:Int)!=(n:Int))=false:=by simp
 refine aG (cP (.agg (dP rfl)) (.agg (dP rfl))) (Yb.call mixed rfl ?_);iterate 30 all_goals ((try conv=>whnf);try first|(with_reducible first|refine zY ?_|refine zN ?_|refine zT ?_|refine br (fun _=> ?_) (fun _=> ?_)|refine⟨rfl,?_⟩))
 refine dz (σ:={i:Nat // i<=n}) (fun y=>[(0,.agg [.aW 5 n g]),(0+1,.agg [.aW 5 n g]),(2,.ref 0 0 0 0),(3,.ref (0+1) 0 0 0),(4,.bool false),(12,.bool false),(5,.int .i64 ((y.1:Nat):Int))])
  (fun _=>⟨2,[(1,jm (.aW 5 n g)),(0,jm (.aW 5 n g))]⟩) (fun y=>n-y.1) (fun _=>2) (fun _=>Nat.le_refl 2) ?_ ⟨0,Nat.zero_le _⟩
 rintro⟨i,hi⟩;dsimp only;have e7:IntKind.i64.wrap ((i:Int)+1)=((i+1:Nat):Int):=bf (by omega);have et:=Int.toNat_natCast i;by_cases hil:i<n
 ·have hd:decide ((i:Int)<(n:Int))=true:=decide_eq_true (by omega)
  have hb:(decide (0<=(i:Int))&&decide ((i:Int)<(n:Int)))=true:=by simp only[Bool.and_eq_true,decide_eq_true_eq];omega
  obtain⟨nm,k,nC,nX,nI,gC,gX,gI,ea,cc⟩:=hg i hil;rw[<- et]at ea;iterate 80 all_goals ((try conv=>whnf);try first|(with_reducible first|refine zY ?_|refine zN ?_|refine zT ?_|refine br (fun _=> ?_) (fun _=> ?_)|refine⟨rfl,?_⟩)|(rewrite [ea])|(refine cc.call ?_))
  exact⟨⟨i+1,hil⟩,by dsimp only;omega,by rw[e7],rfl⟩
 ·have hd:decide ((i:Int)<(n:Int))=false:=decide_eq_false (by omega)
  obtain rfl:i=n:=by omega
  iterate 20 all_goals ((try conv=>whnf);try first|(with_reducible first|refine zY ?_|refine zN ?_|refine zT ?_|refine br (fun _=> ?_) (fun _=> ?_)|refine⟨rfl,?_⟩))
  exact leaf rfl (.bool _)
theorem Jv{c:List Tb}(hc:c.length<=1000)(h: ∀t∈c,Xb t):aj Tryz.prog 9 [qf c,qf c] (.bool true):=by
 refine Ju (n:=(oP 1 c).length) (g:=fun j=>(oP 1 c).getD j .undef) (by rw[jk];omega) fun i hi=> ?_
 rw[jk]at hi;have ht:=h _ (List.getElem_mem hi);refine⟨_,_,_,_,_,_,_,_,by rw[List.getD,oQ hi];rfl,FY (by rw[List.length_map];exact ht.aq) D2 (by rw[List.length_map];exact ht.key) ints_at (by rw[jl];exact ht.idx) fun j hj=> ?_⟩;rw[jl]at hj;exact⟨_,_,_,_,_,by rw[List.getD,tj hj];rfl,by rw[List.length_map];exact ht.ix _ (List.getElem_mem hj),ints_at⟩
end Go.Proofs.YtegmnocpkgpgeaaGreatDoor
set_option linter.unusedVariables false
set_option linter.unusedSimpArgs false
namespace Go.Proofs.YtegmnocpkgpgeaaGreatDoor
open Ab Go.RowKit
set_option maxRecDepth 100000
set_option maxHeartbeats 4000000
attribute [local irreducible] aS bH
theorem O0(k:Nat)(t:Tb):BB k t=D6 t.nm k (t.aq.map gQ).length (t.key.map gA).length (j4 1 t.idx).length (fun j=>(t.aq.map gQ).getD j .undef) (fun j=>(t.key.map gA).getD j .undef) (fun j=>(j4 1 t.idx).getD j .undef):=rfl
theorem MK{c:List Tb}{n:Nat}{g:Nat->SV}{i:Nat}(hn:n=c.length)(D5:SV.agg [.aW 5 n g]=qf c)(hi:i<c.length)(nd:(c.map (·.nm)).Nodup)(hc:c.length<=1000){nm:List UInt8}{k nC nX nI:Nat}{gC gX gI:Nat->SV}(hg:g i=D6 nm k nC nX nI gC gX gI)(hnm:nm=c[i].nm):
  aj Tryz.prog 11 [.agg [.aW 5 n g],.str nm] (.bn [D6 nm k nC nX nI gC gX gI,.bool true]):=by
 have cp:=xX (l:=c) (nm:=nm) (by omega);rw[show iu c nm=some i by rw[hnm];exact xO hi nd,<-D5]at cp;subst hn;have h1:decide ((i:Int)>=0)=true:=decide_eq_true (by omega);have hb:(decide (0<=(i:Int))&&decide ((i:Int)<(c.length:Int)))=true:=by simp only[Bool.and_eq_true,decide_eq_true_eq];omega
 have eg:g (i:Int).toNat=D6 nm k nC nX nI gC gX gI:=by rw[Int.toNat_natCast];exact hg
 clear D5 hg hnm;refine aG (cP (.agg (dP rfl)) (.str _)) (Uf.call mixed rfl ?_);iterate 60 all_goals ((try conv=>whnf);try first|(with_reducible first|refine zY ?_|refine zN ?_|refine zT ?_|refine br (fun _=> ?_) (fun _=> ?_)|refine⟨rfl,?_⟩)|(rewrite [eg])|(refine cp.call ?_))
 exact leaf rfl (tT (.agg (dP rfl)) (.bool _))
theorem vn{s:List UInt8}(hl:aj Tryz.prog 6 [] (.bool true)):aj Tryz.prog 3 [.str s] (.bool true):=by
 refine aG (di (.str _)) (X2.call mixed rfl ?_);by_cases h6:6000<s.length
 ·have hd:decide ((s.length:Int)>6000)=true:=decide_eq_true (by omega)
  iterate 30 all_goals ((try conv=>whnf);try first|(with_reducible first|refine zY ?_|refine zN ?_|refine zT ?_|refine br (fun _=> ?_) (fun _=> ?_)|refine⟨rfl,?_⟩)|(refine hl.call ?_))
  exact leaf rfl (.bool _)
 have hd:decide ((s.length:Int)>6000)=false:=decide_eq_false (by omega);have co:=V9 (s:=s) (by omega);cases ho:Ec s with
 |error p=>
  obtain⟨e,a⟩:=p;iterate 30 all_goals ((try conv=>whnf);try first|(with_reducible first|refine zY ?_|refine zN ?_|refine zT ?_|refine br (fun _=> ?_) (fun _=> ?_)|refine⟨rfl,?_⟩)|(refine hl.call ?_)|(refine co.go fun u hu=> ?_))
  obtain⟨hu,hG,hE⟩:=hu;have he:=hE e a ho;rw[ho]at hu;obtain rfl:u= .bn [qf [],gO e a]:=hu;iterate 60 all_goals ((try conv=>whnf);try first|refine zY ?_ (r4 he)|(with_reducible first|refine zY ?_|refine zN ?_|refine zT ?_|refine br (fun _=> ?_) (fun _=> ?_)|refine⟨rfl,?_⟩))
  exact leaf rfl (.bool _)
 |ok c=>
  iterate 30 all_goals ((try conv=>whnf);try first|(with_reducible first|refine zY ?_|refine zN ?_|refine zT ?_|refine br (fun _=> ?_) (fun _=> ?_)|refine⟨rfl,?_⟩)|(refine hl.call ?_)|(refine co.go fun u hu=> ?_))
  obtain⟨hu,hG,hE⟩:=hu;obtain⟨g,yp⟩:=hG c ho;rw[ho]at hu;have hu:u= .bn [qf c,gO 0 0]:=hu;have hle:=g.le
  have hsm: ∀t∈c,Xb t:=fun t ht=>by
   have gt:=g.tb t ht;exact⟨by have:=gt.le;omega,by have:=gt.VU;omega,by have:=gt.Ou;omega,fun x hx=>by have:=(gt.idx x hx).le;omega⟩
  have ct:=Af g yp;have c2:=FT (G7 g);rw[D4 g yp]at c2;have cs:=Jv (by omega) hsm;have cc:=Ag g yp;obtain⟨gT,D5,YU⟩: ∃gT,qf c= .agg [.aW 5 c.length gT]/\ ∀i (hi:i<c.length),gT i=BB (1+i) c[i]:=⟨fun j=>(oP 1 c).getD j .undef,by show SV.agg [.aW 5 (oP 1 c).length _]=_;rw[jk],fun i hi=>by show(oP 1 c).getD i .undef=_;rw[List.getD,oQ hi];rfl⟩;have c2:aj Tryz.prog 7 [.str (gy (c.flatMap cV))] (.bn [qf c,gO 0 0]):=c2;rw[D5]at ct c2 cs cc hu;subst hu;iterate 100 all_goals ((try conv=>whnf);try first|(with_reducible first|refine zY ?_|refine zN ?_|refine zT ?_|refine br (fun _=> ?_) (fun _=> ?_)|refine⟨rfl,?_⟩)|(refine ct.call ?_)|(refine c2.call ?_)|(refine cs.call ?_)|(refine cc.call ?_))
  clear hu co ct c2 cs cc
  refine dz (σ:={i:Nat // i<=c.length}) (fun y=>[(0,.str s),(2,.bool false),(13,.bool false),(16,.bool false),(3,.ref 0 0 0 0),(4,.ref (0+1) 0 0 0),(24,.bool false),(5,.str (gy (c.flatMap cV))),(6,.int .i64 0),(7,.ref (0+1+1) 0 0 0),(8,.ref (0+1+1+1) 0 0 0),(56,.bool false),(9,.int .i64 ((y.1:Nat):Int))])
   (fun _=>⟨4,[(3,Bo),(2,jm (.aW 5 c.length gT)),(1,Bo),(0,jm (.aW 5 c.length gT))]⟩) (fun y=>c.length-y.1) (fun _=>4) (fun _=>Nat.le_refl 4) ?_ ⟨0,Nat.zero_le _⟩
  rintro⟨i,hi⟩;dsimp only;have e7:IntKind.i64.wrap ((i:Int)+1)=((i+1:Nat):Int):=bf (by omega);have et:=Int.toNat_natCast i;by_cases hil:i<c.length
  ·have iR:decide ((i:Int)<(c.length:Int))=true:=decide_eq_true (by omega)
   have hb:(decide (0<=(i:Int))&&decide ((i:Int)<(c.length:Int)))=true:=by simp only[Bool.and_eq_true,decide_eq_true_eq];omega
   have gt:=g.tb _ (List.getElem_mem hil)
   have hx:(c[i].idx.map (·.nm)).Nodup:=by
    have:=(g.one (List.getElem_mem hil)).xd;simpa using this
   have ck:=qi (k:=1+i) gt hx (by omega);have cf:=fun nm k nC nX nI gC gX gI h1 h2=>MK (nm:=nm) (k:=k) (nC:=nC) (nX:=nX) (nI:=nI) (gC:=gC) (gX:=gX) (gI:=gI) rfl D5.symm hil g.nd (by omega) h1 h2
   have eg:=YU i hil;rw[O0]at eg ck;have cf:=cf _ _ _ _ _ _ _ _ eg rfl;generalize c[i].nm=nm at*;generalize (List.map gQ c[i].aq).length=nC at*;generalize (List.map gA c[i].key).length=nX at*;generalize (j4 1 c[i].idx).length=nI at*;generalize (fun j=>(List.map gQ c[i].aq).getD j .undef)=gC at*;generalize (fun j=>(List.map gA c[i].key).getD j .undef)=gX at*;generalize (fun j=>(j4 1 c[i].idx).getD j .undef)=gI at*;rw[<- et]at eg;have OI:((((1+i:Nat)):Int)!=IntKind.i64.wrap ((i:Int)+1))=false:=by rw[e7,Nat.add_comm];simp
   have ZM:(!((((1+i:Nat)):Int)==IntKind.i64.wrap ((i:Int)+1)))=false:=OI;iterate 120 all_goals ((try conv=>whnf);try first|(with_reducible first|refine zY ?_|refine zN ?_|refine zT ?_|refine br (fun _=> ?_) (fun _=> ?_)|refine⟨rfl,?_⟩)|(rewrite [eg])|(refine cf.call ?_)|(refine ck.call ?_)|(refine au (fP rfl) ?_))
   exact⟨⟨i+1,hil⟩,by dsimp only;omega,by rw[e7],rfl⟩
  ·have iR:decide ((i:Int)<(c.length:Int))=false:=decide_eq_false (by omega)
   iterate 20 all_goals ((try conv=>whnf);try first|(with_reducible first|refine zY ?_|refine zN ?_|refine zT ?_|refine br (fun _=> ?_) (fun _=> ?_)|refine⟨rfl,?_⟩))
   exact leaf rfl (.bool _)
end Go.Proofs.YtegmnocpkgpgeaaGreatDoor
namespace Go.Proofs.YtegmnocpkgpgeaaGreatDoor
open Ab Go.RowKit
set_option maxRecDepth 100000
set_option maxHeartbeats 8000000
def T8:List UInt8:=[99,114,101,97,116,101,32,116,97,98,108,101,32,116,32,40,32,97,32,105,110,116,32,44,32,98,32,116,101,120,116,32,44,32,99,32,98,111,111,108,32,110,111,116,32,110,117,108,108,32,44,32,112,114,105,109,97,114,121,32,107,101,121,32,40,32,98,32,44,32,97,32,41,32,41,32,59,32,99,114,101,97,116,101,32,117,110,105,113,117,101,32,105,110,100,101,120,32,117,32,111,110,32,116,32,40,32,99,32,41,32,59,32,99,114,101,97,116,101,32,105,110,100,101,120,32,105,32,111,110,32,116,32,40,32,98,32,41,32,59]
def M6:Tb:=⟨[116],[⟨[97],2,true⟩,⟨[98],3,true⟩,⟨[99],1,true⟩],[1,0],[⟨[117],[2],true⟩,⟨[105],[1],false⟩]⟩
theorem Tg:Ec T8= .ok [M6]:=by kernel_rfl
def ML:List (Nat×bI):=[(14,t14),(22,t22),(23,t23),(24,t24),(25,t25),(26,t26),(27,t27),(33,t33),(34,t34),(38,t38),(39,t39),(40,t40),(41,t41),(53,t53),(54,t54),(73,t73),(91,t91),(92,t92),(93,t93),(94,t94),(141,t141),(180,t180),(181,t181),(142,t142),(199,t199),(197,t197)]
theorem Hy:jz Tryz.prog ML:= .cons Ui (.cons Uk (.cons Ul (.cons Um (.cons Un (.cons Up (.cons Uq (.cons Gx (.cons zv (.cons UG (.cons UH (.cons UI (.cons UJ (.cons UL (.cons UM (.cons sK (.cons Vi (.cons KA (.cons Vj (.cons PI (.cons KD (.cons KM (.cons KN (.cons E1 (.cons KQ (.cons R3 (.nil))))))))))))))))))))))))))
theorem lu{f:FuncId}{args:List SV}{v:SV}(ha:args.all (Fv 8)=true)(hv:Fv 8 v=true)(h:(lvl Tryz.prog ML 60).1.call f args ⟨0,[]⟩ (fun r _=>r= .ret v)=(bu.ret v=bu.ret v)):aj Tryz.prog f args v:=
 Io mixed Hy 60 (fun a h=>n8 8 a (List.all_eq_true.1 ha a h)) (n8 8 v hv) (Eq.mpr h rfl)
@[reducible] def Hz (i:Int):SV:= .agg [.int .u8 2,.int .i64 i,.str []]
@[reducible] def Qh:SV:= .agg [.int .u8 3,.int .i64 0,.str [120]]
@[reducible] def Tq:SV:= .agg [.int .u8 1,.int .i64 1,.str []]
def qI:List UInt8:=[3,128,0,0,0,0,0,0,1,3,128,0,0,0,0,0,0,0,4,120,0,1,3,128,0,0,0,0,0,0,7]
def MM:List UInt8:=[3,128,0,0,0,0,0,0,7,4,120,0,1,2,1]
theorem Jw:aj Tryz.prog 22 [] (.str T8):=lu rfl rfl (by kernel_rfl)
theorem Ai:aj Tryz.prog 23 [.int .i64 7] (Hz 7):=lu rfl rfl (by kernel_rfl)
theorem Jx:aj Tryz.prog 23 [.int .i64 1] (Hz 1):=lu rfl rfl (by kernel_rfl)
theorem Jy:aj Tryz.prog 23 [.int .i64 0] (Hz 0):=lu rfl rfl (by kernel_rfl)
theorem MN:aj Tryz.prog 24 [.str [120]] Qh:=lu rfl rfl (by kernel_rfl)
theorem HA:aj Tryz.prog 25 [] Tq:=lu rfl rfl (by kernel_rfl)
theorem Ti:aj Tryz.prog 26 [rowOf 1 ([1,0].map gA),rowOf 1 [.int .i64 1,.int .i64 0]] (.bool true):=lu rfl rfl (by kernel_rfl)
theorem Wp:aj Tryz.prog 27 [rowOf 3 [Hz 1,Hz 0,Qh,Hz 7]] (.str qI):=lu rfl rfl (by kernel_rfl)
theorem Wq:aj Tryz.prog 27 [rowOf 3 [Hz 7,Qh,Tq]] (.str MM):=lu rfl rfl (by kernel_rfl)
theorem Aj: ∀w∈([[116],[97],[98],[99],[117],[105]]:List (List UInt8)),cS ⟨1,w,0⟩=true/\kX bC w=false:=by decide +kernel
theorem O1:LF (kX bC) M6:=by
 refine⟨Aj _ (by simp[M6]),fun c hc=> ?_,by decide +kernel,by decide +kernel,by decide +kernel,by decide +kernel,by decide +kernel,by decide +kernel,by decide +kernel,fun i hi c hc=> ?_,fun x hx=> ?_,by decide +kernel⟩
 ·simp only[M6,List.mem_cons,List.not_mem_nil,or_false]at hc
  rcases hc with rfl|rfl|rfl
  ·exact⟨Aj _ (by simp),.inr (.inl rfl)⟩
  ·exact⟨Aj _ (by simp),.inr (.inr rfl)⟩
  ·exact⟨Aj _ (by simp),.inl rfl⟩
 ·simp only[M6,List.mem_cons,List.not_mem_nil,or_false]at hi
  rcases hi with rfl|rfl
  ·cases hc;rfl
  ·cases hc;rfl
 ·simp only[M6,List.mem_cons,List.not_mem_nil,or_false]at hx
  rcases hx with rfl|rfl
  ·exact⟨Aj _ (by simp),by decide,by decide,by decide,by decide⟩
  ·exact⟨Aj _ (by simp),by decide,by decide,by decide,by decide⟩
theorem O3{f:FuncId}{args:List SV}{v:SV}(c:aj Tryz.prog f args v)(hv:rq 8 v=true):G3 Tryz.prog f args v 0 []:=⟨c.1,hv,rfl,c.call ⟨rfl,rfl,fun i o h=>by cases h⟩⟩
def Qi:List xG:=[⟨12,[BB 1 M6],.int .i64 0,0,[]⟩]
theorem O4:oO Tryz.prog Qi:= .cons (O3 (qi O1 (by decide +kernel) (by decide)) rfl) .nil
theorem Wr:aj Tryz.prog 14 [BB 1 M6,rowOf 3 [Hz 7,Qh,Tq]] (.bn [.agg [.str qI,.str MM],.int .i64 0]):=
 I4 mixed Hy O4 60 (cP (.agg (dP rfl)) (.aW _ _ _)) (tT (.agg (dP rfl)) (.int _ _)) (Eq.mpr (show(P0 Tryz.prog ML Qi 60).1.call 14 [BB 1 M6,rowOf 3 [Hz 7,Qh,Tq]] ⟨0,[]⟩ (fun r _=>r= .ret (.bn [.agg [.str qI,.str MM],.int .i64 0]))=(bu.ret (.bn [.agg [.str qI,.str MM],.int .i64 0])=bu.ret (.bn [.agg [.str qI,.str MM],.int .i64 0])) by kernel_rfl) rfl)
end Go.Proofs.YtegmnocpkgpgeaaGreatDoor
namespace Go.Proofs.YtegmnocpkgpgeaaGreatDoor
open Ab Go.RowKit
set_option maxRecDepth 100000
set_option maxHeartbeats 8000000
attribute [local irreducible] aS bH
theorem YW:aj Tryz.prog 7 [.str T8] (.bn [qf [M6],gO 0 0]):=by
 have c:=FT (s:=T8) (by decide +kernel);rw[Tg]at c;exact c
theorem Ws{f:FuncId}{k n m:Nat}{l:List (Nat×ai)}{vs:List SV}{v:SV}{R:bu->Heap->Prop}{sk:Sk}(c:aj Tryz.prog f [rowOf 3 vs] v)(ho:ak l k=some (.vec 0 3 vs sk))(hn:m=vs.length)(hv: ∀a∈vs,aL a)(hR:R (.ret v) ⟨n,cE (fun j=>Nat.beq j k) l⟩):aC Tryz.prog f [.sl k 0 3 0 m (some m)] ⟨n,l⟩ R:=
 aC.C6 (fun j=>Nat.beq j k) (.mW (dH (vO.trans ho) hn hv) .nil) (c.call hR)
theorem Wt{f:FuncId}{k n m:Nat}{u:SV}{l:List (Nat×ai)}{sz:Nat}{vs:List SV}{v:SV}{R:bu->Heap->Prop}{sk:Sk}(c:aj Tryz.prog f [u,rowOf sz vs] v)(ho:ak l k=some (.vec 0 sz vs sk))(hn:m=vs.length)(hv: ∀a∈vs,aL a)(hR:R (.ret v) ⟨n,cE (fun j=>Nat.beq j k) l⟩):aC Tryz.prog f [u,.sl k 0 sz 0 m (some m)] ⟨n,l⟩ R:=
 aC.C6 (fun j=>Nat.beq j k) (.same (.mW (dH (vO.trans ho) hn hv) .nil)) (c.call hR)
theorem HB{l:List SV}(h:l.all (Fv 8)=true): ∀a∈l,aL a:=fun a ha=>n8 8 a (List.all_eq_true.1 h a ha)
theorem Jz:aj Tryz.prog 6 [] (.bool true):=by
 refine aG fJ (X6.call mixed rfl ?_);iterate 40 all_goals ((try conv=>whnf);try first|(with_reducible first|refine zY ?_|refine zN ?_|refine zT ?_|refine br (fun _=> ?_) (fun _=> ?_)|refine⟨rfl,?_⟩|refine aj.call (Jw) ?_|refine aj.call (YW) ?_|refine aj.call (Ai) ?_|refine aj.call (MN) ?_|refine aj.call (HA) ?_)|(refine Wt (vs:=[Hz 7,Qh,Tq]) (sz:=3) Wr rfl rfl (HB rfl) ?_))
 iterate 120 all_goals ((try conv=>whnf);try first|(with_reducible first|refine zY ?_|refine zN ?_|refine zT ?_|refine br (fun _=> ?_) (fun _=> ?_)|refine⟨rfl,?_⟩|refine aj.call (Ai) ?_|refine aj.call (Jx) ?_|refine aj.call (Jy) ?_|refine aj.call (MN) ?_|refine aj.call (HA) ?_)|(refine Wt (vs:=[.int .i64 1,.int .i64 0]) (sz:=1) Ti rfl rfl (HB rfl) ?_)|(refine Ws (vs:=[Hz 1,Hz 0,Qh,Hz 7]) Wp rfl rfl (HB rfl) ?_)|(refine Ws (vs:=[Hz 7,Qh,Tq]) Wq rfl rfl (HB rfl) ?_))
 exact leaf rfl (.bool _)
theorem vo{s:List UInt8}:aj Tryz.prog 3 [.str s] (.bool true):=vn Jz
end Go.Proofs.YtegmnocpkgpgeaaGreatDoor
namespace Go.Proofs.YtegmnocpkgpgeaaGreatDoor
open Ab Go.RowKit
theorem i64_in{n:Int}(h:IntKind.i64.min<=n/\n<=IntKind.i64.max): -9223372036854775808<=n/\n<=9223372036854775807:=by
 have e1:IntKind.i64.min= -9223372036854775808:=by decide
 have e2:IntKind.i64.max=9223372036854775807:=by decide
 omega
noncomputable def rdStr:Ab.Rd Tryz.prog 9 (List UInt8):=Ab.Rd.str Tryz.underlying9 (by kernel_rfl)
end Go.Proofs.YtegmnocpkgpgeaaGreatDoor
set_option linter.unusedVariables false
set_option linter.unusedSimpArgs false
namespace Go.Proofs.YtegmnocpkgpgeaaGreatDoor.catalogBack
open Go.ChangeShapes Go.WideShapes Go.ChangeAt Go.RowKit
theorem own:ownKnob Tryz.prog.godebug=none:=by kernel_rfl
theorem laidOut:laidOutB Tryz.prog=true:=by kernel_rfl
theorem Wu{W:World}(hL:laidMetH Tryz.prog Rows.catalogBackRow.laid W):Ab.gB (fun b=>b<W.heap.size) W:=by
 refine Ab.Ij (fun g hne=> ?_) (fun g hg=> ?_)
 ·unfold Ab.dK at hne
  split at hne
  ·obtain⟨C,ty,fz,h1,h2,h3⟩:=Ab.rO hL (n:= "unicode/utf8.first") (l:=Ab.dK 0) (List.mem_of_getElem? (i:=9) (by kernel_rfl)) (g:=0) (t:=251) (el:=5) (m:=256) (k:= .u8) (by kernel_rfl) (by kernel_rfl) (by kernel_rfl) (by kernel_rfl) (by kernel_rfl) (by kernel_rfl) (by kernel_rfl)
   exact⟨(Array.getElem?_eq_some_iff.1 h1).1,C,ty,fz,h1,h2,h3⟩
  ·obtain⟨C,ty,fz,h1,h2,h3⟩:=Ab.CL hL (n:= "unicode/utf8.acceptRanges") (l:=Ab.dK 1) (by kernel_rfl) (List.mem_of_getElem? (i:=3) (by kernel_rfl)) (g:=1) (t:=254) (el:=253) (m:=16) (k0:= .u8) (k1:= .u8) (by kernel_rfl) (by kernel_rfl) (by kernel_rfl) Tryz.underlying253 (by kernel_rfl) (by kernel_rfl) (by kernel_rfl) (by kernel_rfl) (by kernel_rfl) (by kernel_rfl) (by kernel_rfl) (by kernel_rfl) (by kernel_rfl)
   exact⟨(Array.getElem?_eq_some_iff.1 h1).1,C,ty,fz,h1,h2,h3⟩
  ·obtain⟨C,ty,fz,h1,h2,h3⟩:=Ab.rO hL (n:= "strings.asciiSpace") (l:=Ab.dK 3) (List.mem_of_getElem? (i:=7) (by kernel_rfl)) (g:=3) (t:=251) (el:=5) (m:=256) (k:= .u8) (by kernel_rfl) (by kernel_rfl) (by kernel_rfl) (by kernel_rfl) (by kernel_rfl) (by kernel_rfl) (by kernel_rfl)
   exact⟨(Array.getElem?_eq_some_iff.1 h1).1,C,ty,fz,h1,h2,h3⟩
  ·obtain⟨C,ty,fz,h1,h2,h3⟩:=Ab.rO hL (n:= "internal/strconv.uint64pow10") (l:=Ab.dK 5) (List.mem_of_getElem? (i:=2) (by kernel_rfl)) (g:=5) (t:=287) (el:=171) (m:=20) (k:= .u64) (by kernel_rfl) (by kernel_rfl) (by kernel_rfl) (by kernel_rfl) (by kernel_rfl) (by kernel_rfl) (by kernel_rfl)
   exact⟨(Array.getElem?_eq_some_iff.1 h1).1,C,ty,fz,h1,h2,h3⟩
  ·exact absurd rfl hne
 ·obtain rfl:g=8:=by simpa[Ab.Ed]using hg
  obtain⟨v,ty,fz,h1,h2⟩:=Ab.EV hL (n:= "strconv.ErrRange") (D:=Rows.laid_strconv_ErrRange) (List.mem_of_getElem? (i:=4) (by kernel_rfl)) rfl (by kernel_rfl) (g:=8) (t:=104) (by kernel_rfl) (by kernel_rfl) Tryz.underlying104;exact⟨(Array.getElem?_eq_some_iff.1 h1).1,v,ty,fz,h1,h2⟩
set_option maxRecDepth 100000 in
theorem lifted (os:Os) (started:os.Started) (H:Type) (enc:TypeId×Value->H):
  ReturnsInHanded {} Tryz.checked os 3 .any (fun w args=>(Rows.catalogBackSpec.pre enc Tryz.prog Tryz.f3 Rows.catalogBackRow.domain false w args/\laidMetH Tryz.prog Rows.catalogBackRow.laid w)/\sizedMet enc Tryz.prog Tryz.f3 (OpenSpec.ofChange Rows.catalogBackSpec) false w args)
   (Rows.catalogBackSpec.post enc Tryz.prog Tryz.f3 false true false false):=by
 refine returnsInHanded_of_change_and (C:=Tryz.checked) (X:=fun w _=>laidMetH Tryz.prog Rows.catalogBackRow.laid w) (fun _ _ _ hh h=>h.of_heap hh) own started (by kernel_rfl) Tryz.func3
  (ChangeSpec.witness_shaped (enc:=enc) (C:=Tryz.checked) (os:=os) (X:=fun w _=>laidMetH Tryz.prog Rows.catalogBackRow.laid w) false (World.laidAll Tryz.prog os Rows.catalogBackRow.laid) #[.string ⟨#[]⟩] 8 (World.laidAll_os _ _ _)
   (World.shaped_of_ZipB (by kernel_rfl) (by kernel_rfl)) (by kernel_rfl) (by kernel_rfl) (by kernel_rfl)
   (by rw[MakeChecks.laidMetH_plain _ _ _ (by kernel_rfl)];exact laidMet_laidAll _ (by kernel_rfl) (by kernel_rfl))) ?_
 intro W base args ds gs before Wv hW aat YX hL _;have hval: ∀(j:Nat) t v,Tryz.f3.params[j]? =some t->args[j]? =some v->Value.okWide Tryz.prog W .any base t v:=Wv;have YY:=hW;obtain⟨p,q,hA0,hV,rfl,hfz,hnd⟩:=hW;have YZ:DataW.TrodAll enc Tryz.prog W 0 (fun _=>true) true Tryz.f3.params.toList args.toList ds p:=hA0;have hA:=YZ;rw[Tryz.params3]at hA hval;obtain⟨rfl,rfl⟩:=trodVars_none hV;have hlt: ∀x∈p,x.block<W.heap.size:=fun x hx=>YY.lt x (by simp[hx])
 obtain⟨v0,vs0,d0,ds0,p0,q0,hargs,rfl,rfl,h0,r0⟩:=trodAll_cons hA;obtain⟨rfl,rfl,rfl⟩:=trodAll_nil r0;obtain rfl:args= #[v0]:=by cases args;simp_all
 rw[Tryz.params3]at YX;simp only[DataW.weightsEach,List.cons_append,List.nil_append,List.all_append,Bool.and_eq_true]at YX;obtain⟨x0,k0,e0⟩:=Ab.Rd.one' (rdStr) h0 (fun x=> .str x) (fun _=>rfl) (Ab.Nu Tryz.underlying9 rfl (hval 0 9 v0 rfl rfl) h0) (YX.1);simp only[List.append_nil]at YY hlt YZ;refine(Ab.aj.holds (vo (s:=x0)) (fun b=>b<W.heap.size) (fun _ h=>h) (Wu hL) rfl fun i u x hu hx=> ?_).mono fun e W' ⟨he,hg⟩=> ?_
 ·rcases i with _|i
  ·cases hu;cases hx;exact e0
  ·simp at hu
 ·subst he
  exact⟨_,rfl,Ab.Ii (pa:=_) (pv:=[]) YY (fun _ _ _=>(trodAll_cons_mk (shut_bool Tryz.underlying4 _) trodAll_mk0)) (Ab.zn laidOut hg (by kernel_rfl) YZ (fun x hx=>hlt x (by simpa using hx))) rfl hg⟩
theorem over:Rows.catalogBackRow.holds Tryz.pinned (OpenSpec.ofChange Rows.catalogBackSpec):=
 OpenClaim.holds_of_wide 3 Tryz.f3 rfl rfl rfl rfl rfl rfl rfl ⟨rfl,rfl,rfl,rfl,rfl⟩ rfl rfl rfl rfl rfl (by kernel_rfl) Tryz.func3 (by kernel_rfl)
  (of_decide_eq_true (by kernel_rfl)) (by unfold Func.isWrapper;first|(rw[if_pos (by decide +kernel)];kernel_rfl)|(rw[if_neg (by decide +kernel)];exact⟨rfl,rfl⟩))
  (fun os started H enc _=>lifted os started H enc)
theorem proved:Rows.CatalogBackCardSaid:=
 Claim7.holds_tied_plain_at .later [] [.data,.data,.data,.data,.sentinel,.sentinel,.listed,.data,.pinned,.pinned] true (true,"c9a1ca100d8b30c1a50bb1784e97a3958464b416488639f2a933aa8775d2bc34") true over (fun _ h=>by cases h) (by kernel_rfl) (fun _ h=>by cases h) catalogBack_row_tie rfl ⟨rfl,rfl⟩ (by kernel_rfl) rfl
  (fun f fn hf hfn=>by
   obtain rfl:f=3:=Option.some.inj ((show Tryz.prog.funcNamed "stagepost/stagepostlaw15.CatalogBack" =some 3 by kernel_rfl).symm.trans hf) |>.symm
   obtain rfl:fn=Tryz.f3:=(Option.some.inj (Tryz.func3.symm.trans hfn)).symm
   exact⟨by kernel_rfl,fun j t ht=>by
    rw[Tryz.params3]at ht;have hm:t∈[9]:=by simpa using Array.mem_of_getElem? ht
    have hall:([9].all fun u=> !Tryz.prog.wantsStandIn u)=true:=by kernel_rfl
    exact(show Tryz.prog.wantsStandIn t=false by simpa using List.all_eq_true.1 hall t hm)⟩)
  (by kernel_rfl)
end Go.Proofs.YtegmnocpkgpgeaaGreatDoor.catalogBack
