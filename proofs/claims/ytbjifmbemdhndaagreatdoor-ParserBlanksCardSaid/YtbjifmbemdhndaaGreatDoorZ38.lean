/- Parts of the proof of PParserBlanks, one behind the other, with short names. -/
import Derived.Test.YtbjifmbemdhndaaGreatDoorZ37
import Derived.Test.YtbjifmbemdhndaaGreatDoorZ36
set_option linter.unusedVariables false
set_option linter.unusedSimpArgs false
namespace Go.Proofs.YtbjifmbemdhndaaGreatDoor
open Ab Go.RowKit
set_option maxRecDepth 100000
set_option maxHeartbeats 4000000
attribute [local irreducible] bB cH
section
variable {l:List TP} {m e:Nat}
@[reducible] def Ut (l:List TP) (m:Nat) (r:aF (List (List UInt8))):cG:=match r with
  | .ok ns _=> .ret (rowOf 1 (ns.map SV.str))
  | .bad er j=> .bO (kX er (dF l m j))
theorem vn(ty:TypeId):jb fun v=> .vec 0 1 [v] ⟨false,some ty⟩:=⟨fun h=> .vec rfl fun i v v' a b=>by
 cases i with
 |zero=>simp at a b;subst a;subst b;exact h
 |succ i=>simp at a,fun h=>eJ h⟩
theorem DT(hl:l.length<=65536):oh false 177 l m e (fun v=> .vec 0 1 [v] ⟨false,some 44⟩) 9 1 (de (aq l) (dP aH)) SV.str where
 tok:=vn _
 Us:=rfl
 lit:=fun _=> .str _
 lt:=fun{i j x} h hi=>(cT i x j hi h).2
 E:=by
  intro i j x hi h;have c:=dz (m:=m) (e:=e) hl h;refine Mx (sv:=SV.str) (x:=x) (vn _) (fun _=> .str _) (zK.call mixed rfl ?_);iterate 20 all_goals ((try conv=>whnf);try first|(with_reducible first|refine zY ?_|refine zN ?_|refine zT ?_|refine br (fun _=> ?_) (fun _=> ?_)|refine⟨rfl,?_⟩)|(refine c.call rfl ?_)|(refine cB rfl (by decide) ?_))
  exact⟨fun k=>Nat.beq k 3,_,_,.inl rfl,.refl,rfl,4,by decide,rfl⟩
 Eb:=by
  intro i j er hi h;have c:=cM (m:=m) (e:=e) hl h;refine zK.call mixed rfl ?_;iterate 20 all_goals ((try conv=>whnf);try first|(with_reducible first|refine zY ?_|refine zN ?_|refine zT ?_|refine br (fun _=> ?_) (fun _=> ?_)|refine⟨rfl,?_⟩)|(refine c.bO rfl fun h=> ?_))
 L:=by
  intro i j x g xs hi hx h;have c:=dz (m:=m) (e:=e) hl h;refine My (sv:=SV.str) (x:=x) (vn _) (fun _=> .str _) (zK.call mixed rfl ?_);iterate 20 all_goals ((try conv=>whnf);try first|(with_reducible first|refine zY ?_|refine zN ?_|refine zT ?_|refine br (fun _=> ?_) (fun _=> ?_)|refine⟨rfl,?_⟩)|(refine c.call rfl ?_)|(refine bA (by simp) rfl (by decide) rfl (by omega) (by omega) ?_))
  exact⟨fun k=>Nat.beq k 4,_,_,.inl rfl,.refl,rfl,rfl⟩
 Lb:=by
  intro i j er g xs hi hx h;have c:=cM (m:=m) (e:=e) hl h;refine zK.call mixed rfl ?_;iterate 20 all_goals ((try conv=>whnf);try first|(with_reducible first|refine zY ?_|refine zN ?_|refine zT ?_|refine br (fun _=> ?_) (fun _=> ?_)|refine⟨rfl,?_⟩)|(refine c.bO rfl fun h=> ?_))
theorem nJ(hl:l.length<=65536)(most:Nat)(hm:most<=1000)(i:Nat)(hi:i<=l.length):cy Tryz.prog 140 [.int .i64 most] (dx l i m e)
  (Ut l m (iB (aq l) l.length (dP aH) most i)) (dx l (lA (iB (aq l) l.length (dP aH) most i)) m e):=by
 have ho:=DT (m:=m) (e:=e) hl;unfold iB;cases h1:cj (aq l) [40] i with
 |false=>
  have cm:=bh (m:=m) (e:=e) hl h1;rw[show aA (aq l) [40] i= .bad 240 i by unfold aA;rw[h1];rfl];refine⟨cZ (.int _ _),ah ..,ah ..,ai ..,zI.call mixed rfl ?_⟩;iterate 20 all_goals ((try conv=>whnf);try first|(with_reducible first|refine zY ?_|refine zN ?_|refine zT ?_|refine br (fun _=> ?_) (fun _=> ?_)|refine⟨rfl,?_⟩)|(refine dy cm rfl rfl rfl fun h=> ?_))
  exact aW (ai _ _)
 |true=>
  have cm:=aS (m:=m) (e:=e) hl h1;have H8:=aI h1;rw[show aA (aq l) [40] i= .ok () (i+1) by unfold aA;rw[h1];rfl];dsimp only[aF.then];cases hg:cN (aq l) l.length (de (aq l) (dP aH)) most [] (i+1)with
  |bad er j=>
   refine⟨cZ (.int _ _),ah ..,ah ..,ai ..,zI.call mixed rfl ?_⟩;iterate 20 all_goals ((try conv=>whnf);try first|(with_reducible first|refine zY ?_|refine zN ?_|refine zT ?_|refine br (fun _=> ?_) (fun _=> ?_)|refine⟨rfl,?_⟩)|(refine aP cm rfl rfl rfl ?_)|(refine iu hl ho hm H8 hg rfl rfl rfl rfl fun h=> ?_))
   exact aW (ai _ _)
  |ok ns k=>
   dsimp only;cases h2:cj (aq l) [41] k with
   |false=>
    have wJ:=bh (m:=m) (e:=e) hl h2;rw[show aA (aq l) [41] k= .bad 240 k by unfold aA;rw[h2];rfl];refine⟨cZ (.int _ _),ah ..,ah ..,ai ..,zI.call mixed rfl ?_⟩;iterate 30 all_goals ((try conv=>whnf);try first|(with_reducible first|refine zY ?_|refine zN ?_|refine zT ?_|refine br (fun _=> ?_) (fun _=> ?_)|refine⟨rfl,?_⟩)|(refine aP cm rfl rfl rfl ?_)|(refine cI hl ho hm H8 hg rfl rfl rfl rfl ?_)|(refine dy wJ rfl rfl rfl fun h=> ?_))
    exact aW (ai _ _)
   |true=>
    have wJ:=aS (m:=m) (e:=e) hl h2;rw[show aA (aq l) [41] k= .ok () (k+1) by unfold aA;rw[h2];rfl];refine⟨cZ (.int _ _),ah ..,ah ..,bx _ _,zI.call mixed rfl ?_⟩;iterate 30 all_goals ((try conv=>whnf);try first|(with_reducible first|refine zY ?_|refine zN ?_|refine zT ?_|refine br (fun _=> ?_) (fun _=> ?_)|refine⟨rfl,?_⟩)|(refine aP cm rfl rfl rfl ?_)|(refine cI hl ho hm H8 hg rfl rfl rfl rfl ?_)|(refine aP wJ rfl rfl rfl ?_))
    exact bT (.lit (bx _ _)) rfl
end
end Go.Proofs.YtbjifmbemdhndaaGreatDoor
namespace Go.Proofs.YtbjifmbemdhndaaGreatDoor
open Ab Go.RowKit
set_option maxRecDepth 100000
@[reducible] def Qv (x:Ex):List SV:=[.int .u8 x.op,.int .u8 x.va.k,.int .i64 x.va.i,.str x.va.s,.str x.tb,.str x.nm,.int .i64 x.slot,.int .u8 x.kd,mT (iY x.args)]
theorem Js(x:Ex):uD x= .agg (Qv x):=by cases x;rw[uD]
theorem Aa(x:Ex): ∀a∈Qv x,bJ a:=by
 simp only[List.mem_cons,List.not_mem_nil,or_false];rintro _ (rfl|rfl|rfl|rfl|rfl|rfl|rfl|rfl|rfl)<;>constructor
@[reducible] def sU (x:CC):SV:= .agg [.bool x.all,.int .u8 x.x.op,.int .u8 x.x.va.k,.int .i64 x.x.va.i,.str x.x.va.s,.str x.x.tb,.str x.x.nm,.int .i64 x.x.slot,.int .u8 x.x.kd,mT (iY x.x.args),.str x.nm]
@[reducible] def rC (x:Src):SV:= .agg [.str x.tb,.str x.nm,.int .u8 x.vl.op,.int .u8 x.vl.va.k,.int .i64 x.vl.va.i,.str x.vl.va.s,.str x.vl.tb,.str x.vl.nm,.int .i64 x.vl.slot,.int .u8 x.vl.kd,mT (iY x.vl.args)]
@[reducible] def CD (x:Ord):SV:= .agg [.int .u8 x.x.op,.int .u8 x.x.va.k,.int .i64 x.x.va.i,.str x.x.va.s,.str x.x.tb,.str x.x.nm,.int .i64 x.x.slot,.int .u8 x.x.kd,mT (iY x.x.args),.bool x.desc]
@[reducible] def CF (x:K0):SV:= .agg [.str x.nm,.int .u8 x.x.op,.int .u8 x.x.va.k,.int .i64 x.x.va.i,.str x.x.va.s,.str x.x.tb,.str x.x.nm,.int .i64 x.x.slot,.int .u8 x.x.kd,mT (iY x.x.args),.int .i64 x.slot]
@[reducible] def jN (x:fe):SV:= .agg [.str x.nm,.int .u8 x.kd,.bool x.nn]
theorem kZ(x:CC):bJ (sU x):= .agg (by
 simp only[List.mem_cons,List.not_mem_nil,or_false];rintro _ (rfl|rfl|rfl|rfl|rfl|rfl|rfl|rfl|rfl|rfl|rfl)<;>constructor)
theorem ld(x:Src):bJ (rC x):= .agg (by
 simp only[List.mem_cons,List.not_mem_nil,or_false];rintro _ (rfl|rfl|rfl|rfl|rfl|rfl|rfl|rfl|rfl|rfl|rfl)<;>constructor)
theorem lf(x:Ord):bJ (CD x):= .agg (by
 simp only[List.mem_cons,List.not_mem_nil,or_false];rintro _ (rfl|rfl|rfl|rfl|rfl|rfl|rfl|rfl|rfl|rfl)<;>constructor)
theorem sK(x:K0):bJ (CF x):= .agg (by
 simp only[List.mem_cons,List.not_mem_nil,or_false];rintro _ (rfl|rfl|rfl|rfl|rfl|rfl|rfl|rfl|rfl|rfl|rfl)<;>constructor)
theorem FG(x:fe):bJ (jN x):= .agg (by
 simp only[List.mem_cons,List.not_mem_nil,or_false];rintro _ (rfl|rfl|rfl)<;>constructor)
@[reducible] def OL (kind:Int) (name Dw:List UInt8) (gX key:SV) (uniq:Bool) (names rows items nO:SV) (wh:Ex) (group order:SV) (limit:Int) (sets:SV):List SV:=
  [.int .u8 kind,.str name,.str Dw,gX,key,.bool uniq,names,rows,items,nO,.int .u8 wh.op,.int .u8 wh.va.k,.int .i64 wh.va.i,.str wh.va.s,.str wh.tb,.str wh.nm,.int .i64 wh.slot,.int .u8 wh.kd,mT (iY wh.args),group,order,.int .i64 limit,sets]
@[reducible] def mV (cs:List SV):aG:= .vec 0 23 [.agg cs] ⟨false,some 51⟩
@[reducible] def iZ (kind:Int) (name Dw:List UInt8) (gX key:SV) (uniq:Bool) (names rows items nO:SV) (group order:SV) (limit:Int) (sets:SV):List SV:=
  [.int .u8 kind,.str name,.str Dw,gX,key,.bool uniq,names,rows,items,nO,.int .u8 0,.int .u8 0,.int .i64 0,.str [],.str [],.str [],.int .i64 0,.int .u8 0,.ak,group,order,.int .i64 limit,sets]
theorem qo{sz:Nat}{pre post:List SV}{sk:Sk}(h1: ∀a∈pre,bJ a)(h2: ∀a∈post,bJ a):jb fun v=> .vec 0 sz [.agg (pre++v::post)] sk:=by
 have mid: ∀ {R:SV->SV->Prop} {v v':SV},(∀ a,bJ a->R a a)->R v v'-> ∀(i:Nat) (u u':SV),(pre++v::post)[i]? =some u->(pre++v'::post)[i]? =some u'->R u u':=by
  intro R v v' hl hv i u u' a b;rcases Nat.lt_trichotomy i pre.length with h|h|h
  ·rw[List.getElem?_append_left h]at a b
   rw[a]at b;cases b
   exact hl u (h1 u (List.mem_of_getElem? a))
  ·subst h
   simp at a b;subst a;subst b
   exact hv
  ·rw[List.getElem?_append_right (by omega)]at a b
   obtain⟨k,hk⟩: ∃k,i-pre.length=k+1:=⟨i-pre.length-1,by omega⟩;rw[hk]at a b;simp at a b;rw[a]at b;cases b
   exact hl u (h2 u (List.mem_of_getElem? a))
 refine⟨fun{N v v'} h=> .vec rfl fun i u u' a b=> ?_,fun{A v v'} h=>eJ (.agg (by simp) (mid (fun a ha=> .lit ha) h))⟩;cases i with
 |zero=>
  simp at a b;subst a;subst b
  exact .agg (by simp) (mid (fun a ha=> .lit ha) h)
 |succ i=>simp at a
end Go.Proofs.YtbjifmbemdhndaaGreatDoor
namespace Ab
open Go
theorem Mz{P:Program}{ops:List aJ}{e:Env}{h:Heap}{k:Env->Heap->Prop}{o7 o8 o9 uX:aJ}(g7:fT ops 7=some o7)(g8:fT ops 8=some o8)(g9:fT ops 9=some o9)(g10:fT ops 10=some uX)
  (f1:cz o7.pre [7,9,8,10]=true)(f2:cz o9.pre [7,9,8,10]=true)(f3:cz o8.pre [7,9,8,10]=false)(f4:cz uX.pre [7,9,8,10]=false)
  (f5:cz o9.pre [9,8,10]=true)(f6:cz o8.pre [9,8,10]=true)(f7:cz uX.pre [9,8,10]=false)(f8:cz o8.pre [8,10]=true)(f9:cz uX.pre [8,10]=true)(f10:cz uX.pre [10]=true)(f11:cz o8.pre [8]=true)
  (f12:cz o9.pre [9,10]=true)(f13:cz uX.pre [9,10]=false)(f14:cz o7.pre [7,8,10]=true)(f15:cz o8.pre [7,8,10]=false)(f16:cz uX.pre [7,8,10]=true)(f17:cz o7.pre [7,8]=true)(f18:cz o8.pre [7,8]=false)
  {e7 e9 oD vo:Env}{h8 h10 hh:Heap}
  (s7: ∀K,eD P (bK P) o7 e h K=K e7 h)(VY: ∀K,eD P (bK P) o9 e7 h K=K oD h)(s8: ∀K,eD P (bK P) o8 oD h K=K oD h8)(Sn: ∀K,eD P (bK P) uX oD h8 K=K oD hh)(Xy: ∀K,eD P (bK P) uX oD h K=K oD h10)(Uu: ∀K,eD P (bK P) o8 oD h10 K=K oD hh)
  (t8: ∀K,eD P (bK P) o8 e7 h K=K e7 h8)(t89: ∀K,eD P (bK P) o9 e7 h8 K=K oD h8)
  (u9: ∀K,eD P (bK P) o9 e h K=K e9 h)(Xz: ∀K,eD P (bK P) o7 e9 h K=K vo h)(v8: ∀K,eD P (bK P) o8 vo h K=K vo h8)(Uv: ∀K,eD P (bK P) uX vo h8 K=K vo hh)(v10: ∀K,eD P (bK P) uX vo h K=K vo h10)(Uw: ∀K,eD P (bK P) o8 vo h10 K=K vo hh)
  (XA: ∀K,eD P (bK P) uX e9 h K=K e9 h10)(Ux: ∀K,eD P (bK P) o7 e9 h10 K=K vo h10)
  (p1:vE oD oD)(p2:vE vo oD)(hk:k oD hh):vF P (bK P) ops [7,9,8,10] e h k:=by
 unfold vF
 have r1:FR P (bK P) ops [7,9,8,10] e h=fun K=>K oD hh:=by
  funext K;simp only[FR,g7,g8,g9,g10,s7,VY,s8,Sn]
 rw[r1];have q1: ∀p:Prop,p->(fun e' h' p=>(bK P).fin (Ls oD hh e' h') (vE e' oD/\hh=h') p) oD hh p:=fun p hp=>⟨⟨p1,rfl⟩,hp⟩
 have q2: ∀p:Prop,p->(fun e' h' p=>(bK P).fin (Ls oD hh e' h') (vE e' oD/\hh=h') p) vo hh p:=fun p hp=>⟨⟨p2,rfl⟩,hp⟩
 show gT P (bK P) ops (fun e' h' p=>(bK P).fin (Ls oD hh e' h') (vE e' oD/\hh=h') p) 4 [7,9,8,10] e h (k oD hh);generalize (fun e' h' p=>(bK P).fin (Ls oD hh e' h') (vE e' oD/\hh=h') p)=l8 at q1 q2;generalize k oD hh=p at hk
 have yS: ∀p:Prop,p->gT P (bK P) ops l8 1 [10] oD h8 p:=fun p hp=>by
  rw[gG];show(match fT ops 10 with|none=>False|some o=> @Bool.rec (fun _=>Prop) p (eD P (bK P) o oD h8 fun e' h'=>gT P (bK P) ops l8 0 [] e' h' p) (cz o.pre [10]));rw[g10];show@Bool.rec (fun _=>Prop) p (eD P (bK P) uX oD h8 fun e' h'=>l8 e' h' p) (cz uX.pre [10]);rw[f10];show eD P (bK P) uX oD h8 _;rw[Sn];exact q1 p hp
 have a8: ∀p:Prop,p->gT P (bK P) ops l8 1 [8] oD h10 p:=fun p hp=>by
  rw[gG];show(match fT ops 8 with|none=>False|some o=> @Bool.rec (fun _=>Prop) p (eD P (bK P) o oD h10 fun e' h'=>gT P (bK P) ops l8 0 [] e' h' p) (cz o.pre [8]));rw[g8];show@Bool.rec (fun _=>Prop) p (eD P (bK P) o8 oD h10 fun e' h'=>l8 e' h' p) (cz o8.pre [8]);rw[f11];show eD P (bK P) o8 oD h10 _;rw[Uu];exact q1 p hp
 have yT: ∀p:Prop,p->gT P (bK P) ops l8 1 [10] vo h8 p:=fun p hp=>by
  rw[gG];show(match fT ops 10 with|none=>False|some o=> @Bool.rec (fun _=>Prop) p (eD P (bK P) o vo h8 fun e' h'=>gT P (bK P) ops l8 0 [] e' h' p) (cz o.pre [10]));rw[g10];show@Bool.rec (fun _=>Prop) p (eD P (bK P) uX vo h8 fun e' h'=>l8 e' h' p) (cz uX.pre [10]);rw[f10];show eD P (bK P) uX vo h8 _;rw[Uv];exact q2 p hp
 have b8: ∀p:Prop,p->gT P (bK P) ops l8 1 [8] vo h10 p:=fun p hp=>by
  rw[gG];show(match fT ops 8 with|none=>False|some o=> @Bool.rec (fun _=>Prop) p (eD P (bK P) o vo h10 fun e' h'=>gT P (bK P) ops l8 0 [] e' h' p) (cz o.pre [8]));rw[g8];show@Bool.rec (fun _=>Prop) p (eD P (bK P) o8 vo h10 fun e' h'=>l8 e' h' p) (cz o8.pre [8]);rw[f11];show eD P (bK P) o8 vo h10 _;rw[Uw];exact q2 p hp
 have two: ∀(m x y:Nat) (ox oy:aJ) (e:Env) (h:Heap) (p:Prop),fT ops x=some ox->fT ops y=some oy->gT P (bK P) ops l8 (m+1) [x,y] e h p=
   @Bool.rec (fun _=>Prop) (@Bool.rec (fun _=>Prop) p (eD P (bK P) oy e h fun e' h'=>gT P (bK P) ops l8 m (oG [x,y] y) e' h' p) (cz oy.pre [x,y]))
    (eD P (bK P) ox e h fun e' h'=>gT P (bK P) ops l8 m (oG [x,y] x) e' h' (@Bool.rec (fun _=>Prop) p (eD P (bK P) oy e h fun e' h'=>gT P (bK P) ops l8 m (oG [x,y] y) e' h' p) (cz oy.pre [x,y]))) (cz ox.pre [x,y]):=fun m x y ox oy e h p h1 h2=>by
  rw[gG];simp only[ug,h1,h2]
 have three: ∀(m x y z:Nat) (ox oy oz:aJ) (e:Env) (h:Heap) (p:Prop),fT ops x=some ox->fT ops y=some oy->fT ops z=some oz->cz ox.pre [x,y,z]=true->
   (∀ q:Prop,q->eD P (bK P) ox e h fun e' h'=>gT P (bK P) ops l8 m (oG [x,y,z] x) e' h' q)->(cz oy.pre [x,y,z]=true-> ∀q:Prop,q->eD P (bK P) oy e h fun e' h'=>gT P (bK P) ops l8 m (oG [x,y,z] y) e' h' q)->
   (cz oz.pre [x,y,z]=true-> ∀q:Prop,q->eD P (bK P) oz e h fun e' h'=>gT P (bK P) ops l8 m (oG [x,y,z] z) e' h' q)->p->gT P (bK P) ops l8 (m+1) [x,y,z] e h p:=fun m x y z ox oy oz e h p h1 h2 h3 hx k1 k2 k3 hp=>by
  rw[gG];simp only[ug,h1,h2,h3];rw[hx];refine k1 _ ?_
  have hz: @Bool.rec (fun _=>Prop) p (eD P (bK P) oz e h fun e' h'=>gT P (bK P) ops l8 m (oG [x,y,z] z) e' h' p) (cz oz.pre [x,y,z]):=by
   cases hb:cz oz.pre [x,y,z]with
   |true=>exact k3 hb p hp
   |false=>exact hp
  cases hb:cz oy.pre [x,y,z]with
  |true=>exact k2 hb _ hz
  |false=>exact hz
 have pair: ∀p:Prop,p->gT P (bK P) ops l8 2 [8,10] oD h p:=fun p hp=>by
  rw[two 1 8 10 o8 uX oD h p g8 g10,f8,f9];show eD P (bK P) o8 oD h _;rw[s8];refine yS _ ?_;show eD P (bK P) uX oD h _;rw[Xy];exact a8 p hp
 have So: ∀p:Prop,p->gT P (bK P) ops l8 2 [8,10] vo h p:=fun p hp=>by
  rw[two 1 8 10 o8 uX vo h p g8 g10,f8,f9];show eD P (bK P) o8 vo h _;rw[v8];refine yT _ ?_;show eD P (bK P) uX vo h _;rw[v10];exact b8 p hp
 have Sp: ∀p:Prop,p->gT P (bK P) ops l8 2 [9,10] e7 h8 p:=fun p hp=>by
  rw[two 1 9 10 o9 uX e7 h8 p g9 g10,f12,f13];show eD P (bK P) o9 e7 h8 _;rw[t89];exact yS _ hp
 have Sq: ∀p:Prop,p->gT P (bK P) ops l8 2 [7,8] e9 h10 p:=fun p hp=>by
  rw[two 1 7 8 o7 o8 e9 h10 p g7 g8,f17,f18];show eD P (bK P) o7 e9 h10 _;rw[Ux];exact b8 _ hp
 have XB: ∀p:Prop,p->gT P (bK P) ops l8 3 [9,8,10] e7 h p:=fun p hp=>three 2 9 8 10 o9 o8 uX e7 h p g9 g8 g10 f5 (fun q hq=>by rw[VY];exact pair q hq) (fun _ q hq=>by rw[t8];exact Sp q hq) (fun hb=>by rw[f7]at hb;cases hb) hp
 have Uy: ∀p:Prop,p->gT P (bK P) ops l8 3 [7,8,10] e9 h p:=fun p hp=>three 2 7 8 10 o7 o8 uX e9 h p g7 g8 g10 f14 (fun q hq=>by rw[Xz];exact So q hq) (fun hb=>by rw[f15]at hb;cases hb) (fun _ q hq=>by rw[XA];exact Sq q hq) hp
 rw[gG];simp only[ug,g7,g8,g9,g10];rw[f1,f2,f3,f4];show eD P (bK P) o7 e h _;rw[s7];refine XB _ ?_;show eD P (bK P) o9 e h _;rw[u9];exact Uy _ hk
end Ab
namespace Go.Proofs.YtbjifmbemdhndaaGreatDoor
open Ab Go.RowKit
set_option maxRecDepth 100000
set_option maxHeartbeats 8000000
attribute [local irreducible] bB cH
section
variable {l:List TP} {m e:Nat}
def Cc{α:Type}(l:List TP)(m e:Nat)(tgt:SV->aG)(ty:TypeId)(sz:Nat)(sv:α->SV)(res:aF α)(r:cG)(h':Heap):Prop:=match res with
 | .ok x j=>r= .ret (.bn [])/\h'=⟨4,[(3,.vec 0 sz [sv x] ⟨true,some ty⟩),(2,tgt (.sl 3 0 sz 0 1 none)),(1,lZ),(0,dx l j m e)]⟩
 | .bad er j=>r= .bO (kX er (dF l m j))
def Cd{α:Type}(l:List TP)(m e:Nat)(tgt:SV->aG)(ty:TypeId)(sz:Nat)(sv:α->SV)(g:Nat)(xs:List α)(res:aF α)(r:cG)(h':Heap):Prop:=match res with
 | .ok x j=>r= .ret (.bn [])/\h'=⟨4,[(3,.vec (g+1) sz ((xs++[x]).map sv) ⟨true,some ty⟩),(2,tgt (.sl 3 (g+1) sz 0 (xs.length+1) none)),(1,lZ),(0,dx l j m e)]⟩
 | .bad er j=>r= .bO (kX er (dF l m j))
theorem j0{α:Type}{fl:Bool}{f:FuncId}{tgt:SV->aG}{ty:TypeId}{sz:Nat}{sv:α->SV}(ht:jb tgt)(hs: ∀x,bJ (sv x)){i j:Nat}{x:α}
 (hp:aZ Tryz.prog f (aT fl) ⟨3,[(2,tgt .ak),(1,lZ),(0,dx l i m e)]⟩ (FE fun r l'=>r= .ret (.bn [])/\ ∃k,3<=k/\l'=[(k,.vec 0 sz [sv x] ⟨true,some ty⟩),(2,tgt (.sl k 0 sz 0 1 none)),(1,lZ),(0,dx l j m e)])):
 aZ Tryz.prog f (aT fl) ⟨3,[(2,tgt .ak),(1,lZ),(0,dx l i m e)]⟩ (Cc l m e tgt ty sz sv (.ok x j)):=Mx ht hs hp
theorem ke{α:Type}{fl:Bool}{f:FuncId}{tgt:SV->aG}{ty:TypeId}{sz:Nat}{sv:α->SV}(ht:jb tgt)(hs: ∀x,bJ (sv x)){i j g:Nat}{x:α}{xs:List α}
 (hp:aZ Tryz.prog f (aT fl) ⟨4,[(3,.vec g sz (xs.map sv) ⟨true,some ty⟩),(2,tgt (.sl 3 g sz 0 xs.length none)),(1,lZ),(0,dx l i m e)]⟩ (FE fun r l'=>r= .ret (.bn [])/\l'=[(3,.vec (g+1) sz (xs.map sv++[sv x]) ⟨true,some ty⟩),(2,tgt (.sl 3 (g+1) sz 0 (xs.length+1) none)),(1,lZ),(0,dx l j m e)])):
 aZ Tryz.prog f (aT fl) ⟨4,[(3,.vec g sz (xs.map sv) ⟨true,some ty⟩),(2,tgt (.sl 3 g sz 0 xs.length none)),(1,lZ),(0,dx l i m e)]⟩ (Cd l m e tgt ty sz sv g xs (.ok x j)):=My ht hs hp
theorem oh.of{α:Type}{fl:Bool}{f:FuncId}{tgt:SV->aG}{ty:TypeId}{sz:Nat}{one:Nat->aF α}{sv:α->SV}(ht:jb tgt)(hc:fh Tryz.prog f=true)(hs: ∀x,bJ (sv x))(hf:oN l.length one)
  (hE: ∀i,i<=l.length->aZ Tryz.prog f (aT fl) ⟨3,[(2,tgt .ak),(1,lZ),(0,dx l i m e)]⟩ (Cc l m e tgt ty sz sv (one i)))
  (hL: ∀i (xs:List α) (g:Nat),i<=l.length->xs.length<=1000->aZ Tryz.prog f (aT fl) ⟨4,[(3,.vec g sz (xs.map sv) ⟨true,some ty⟩),(2,tgt (.sl 3 g sz 0 xs.length none)),(1,lZ),(0,dx l i m e)]⟩ (Cd l m e tgt ty sz sv g xs (one i))):
  oh fl f l m e tgt ty sz one sv where
 tok:=ht
 Us:=hc
 lit:=hs
 lt:=fun{i j x} h hi=>(hf i x j hi h).2
 E:=fun{i j x} hi h=>by have:=hE i hi;rw[h]at this;exact this
 Eb:=fun{i j er} hi h=>by have:=hE i hi;rw[h]at this;exact this
 L:=fun{i j x g xs} hi hx h=>by have:=hL i xs g hi hx;rw[h]at this;exact this
 Lb:=fun{i j er g xs} hi hx h=>by have:=hL i xs g hi hx;rw[h]at this;exact this
theorem GV{A:Heap}{g sz:Nat}{es:List SV}{v v':SV}{sk:Sk}(h:cq A v v'):xF A (.vec g sz (es++[v]) sk) (.vec g sz (es++[v']) sk):= .vec (by simp) fun i u u' a b=>by
 rcases Nat.lt_trichotomy i es.length with hi|hi|hi
 ·rw[List.getElem?_append_left hi]at a b
  rw[a]at b;cases b
  exact .inl rfl
 ·subst hi
  simp at a b;subst a;subst b
  exact .inr h
 ·rw[List.getElem?_append_right (by omega)]at a
  obtain⟨k,hk⟩: ∃k,i-es.length=k+1:=⟨i-es.length-1,by omega⟩;rw[hk]at a;simp at a
theorem Ce{A:Heap}:cq A (.agg [.bool true,.int .u8 0,.int .u8 0,.int .i64 0,.str [],.str [],.str [],.int .i64 0,.int .u8 0,.ak,.str []]) (sU ⟨true,kQ,[]⟩):= .agg rfl fun i u u' a b=>by
 match i with
 |0=>simp at a b;subst a;subst b;exact .lit (.bool _)
 |1=>simp at a b;subst a;subst b;exact .lit (.int _ _)
 |2=>simp at a b;subst a;subst b;exact .lit (.int _ _)
 |3=>simp at a b;subst a;subst b;exact .lit (.int _ _)
 |4=>simp at a b;subst a;subst b;exact .lit (.str _)
 |5=>simp at a b;subst a;subst b;exact .lit (.str _)
 |6=>simp at a b;subst a;subst b;exact .lit (.str _)
 |7=>simp at a b;subst a;subst b;exact .lit (.int _ _)
 |8=>simp at a b;subst a;subst b;exact .lit (.int _ _)
 |9=>simp at a b;subst a;subst b;exact .nil
 |10=>simp at a b;subst a;subst b;exact .lit (.str _)
 |i+11=>simp at a
abbrev bD(l:List TP):Nat->aF Ex:=(R4 (aq l) (dP aH) l.length 40).expr
theorem fL(hl:l.length<=65536):sD l m 0 22 (bD l):=(Jc hl 40 0 rfl).expr
theorem eO:oN l.length (bD l):=(DN 40).expr
theorem Jt:oN l.length (Mv (aq l) (dP aH)):=fun i x j hi h=>by
 unfold Mv at h;split at h
 ·rename_i hb
  have:=aI hb;have:=cT (i+1) x j (by omega) h;omega
 ·cases h;omega
theorem Cf:oN l.length (qK (aq l) (dP aH) (bD l)):=fun i x j hi h=>by
 unfold qK at h;split at h
 ·rename_i hb
  have:=aI hb;cases h
  omega
 ·obtain⟨y,k,h1,h2⟩:=then_ok h
  have a:=eO i y k hi h1;obtain⟨s,q,h3,h4⟩:=then_ok h2;have b:=Jt k s q a.2 h3;cases h4
  omega
theorem tR:oN l.length (lY (aq l) (bD l)):=fun i x j hi h=>by
 unfold lY at h;obtain⟨y,k,h1,h2⟩:=then_ok h;have a:=eO i y k hi h1;split at h2
 ·rename_i hb
  have:=aI hb;cases h2
  omega
 ·split at h2
  ·rename_i hb
   have:=aI hb;cases h2
   omega
  ·cases h2
   omega
theorem FH:oN l.length (xL (aq l) (dP aH) (bD l)):=fun i x j hi h=>by
 unfold xL at h;obtain⟨n,k,h1,h2⟩:=then_ok h;have a:=cT i n k hi h1;obtain⟨_,q,h3,h4⟩:=then_ok h2;have b:=gB k _ q a.2 h3;obtain⟨y,p,h5,h6⟩:=then_ok h4;have c:=eO q y p b.2 h5;cases h6
 omega
def FI:SV->Bool
 | .ak| .str _| .bool _| .int _ _| .dm _ _ _=>true
 |_=>false
theorem Cg: ∀ {v:SV},FI v=true->bJ v
 | .ak,_=> .ak
 | .str _,_=> .str _
 | .bool _,_=> .bool _
 | .int _ _,_=> .int _ _
 | .dm _ _ _,_=> .dm _ _ _
theorem pX: ∀ {l:List SV},l.all FI=true-> ∀a∈l,bJ a:=fun{l} h a ha=>Cg (List.all_eq_true.1 h a ha)
theorem l5:jb (fun v=>mV (iZ 1 [] [] .ak .ak false .ak .ak v .ak .ak .ak (-1) .ak)):=qo (pre:=[.int .u8 1,.str [],.str [],.ak,.ak,.bool false,.ak,.ak]) (post:=[.ak,.int .u8 0,.int .u8 0,.int .i64 0,.str [],.str [],.str [],.int .i64 0,.int .u8 0,.ak,.ak,.ak,.int .i64 (-1),.ak]) (pX rfl) (pX rfl)
theorem OM(hl:l.length<=65536)(i:Nat)(hi:i<=l.length):aZ Tryz.prog 133 (aT true) ⟨3,[(2,(fun v=>mV (iZ 1 [] [] .ak .ak false .ak .ak v .ak .ak .ak (-1) .ak)) .ak),(1,lZ),(0,dx l i m 0)]⟩ (Cc l m 0 (fun v=>mV (iZ 1 [] [] .ak .ak false .ak .ak v .ak .ak .ak (-1) .ak)) 103 11 sU (qK (aq l) (dP aH) (bD l) i)):=by
 unfold qK;cases h1:cj (aq l) [42] i with
 |true=>
  have cg:=bG (m:=m) (e:=0) hl h1;rw[if_pos rfl];refine j0 (l5) kZ (lS.call mixed rfl ?_);iterate 30 all_goals ((try conv=>whnf);try first|(with_reducible first|refine zY ?_|refine zN ?_|refine zT ?_|refine br (fun _=> ?_) (fun _=> ?_)|refine⟨rfl,?_⟩)|(refine cg.call rfl ?_)|(refine cB rfl (by decide) ?_))
  exact⟨fun k=>Nat.blt 2 k&& !Nat.beq k 4,_,_,.inl rfl,.cons (eJ (Ce)) .refl,rfl,4,by decide,rfl⟩
 |false=>
  have cg:=bU (m:=m) (e:=0) hl h1;rw[if_neg (by decide)];have hX:=fL (m:=m) hl;cases hf:bD l i with
  |bad er j=>
   have c:=hX.bad hi hf;refine lS.call mixed rfl ?_;iterate 30 all_goals ((try conv=>whnf);try first|(with_reducible first|refine zY ?_|refine zN ?_|refine zT ?_|refine br (fun _=> ?_) (fun _=> ?_)|refine⟨rfl,?_⟩)|(refine cg.call rfl ?_)|(refine c.bO rfl fun h=> ?_))
  |ok x j=>
   have c:=hX.ok hi hf;have hj:=(eO i x j hi hf).2;obtain⟨op,v,tb,nm,slot,kd,args⟩:=x;rw[bt]at c;dsimp only[aF.then,Mv];cases h2:cj (aq l) [97,115] j with
   |false=>
    have xM:=bU (m:=m) (e:=0) hl h2;rw[if_neg (by decide)];dsimp only;refine j0 (l5) kZ (lS.call mixed rfl ?_);iterate 40 all_goals ((try conv=>whnf);try first|(with_reducible first|refine zY ?_|refine zN ?_|refine zT ?_|refine br (fun _=> ?_) (fun _=> ?_)|refine⟨rfl,?_⟩)|(refine cg.call rfl ?_)|(refine c.call rfl ?_)|(refine xM.call rfl ?_)|(refine cB rfl (by decide) ?_))
    exact⟨fun k=>Nat.blt 2 k&& !Nat.beq k 5,_,_,.inl rfl,.refl,rfl,5,by decide,rfl⟩
   |true=>
    have xM:=bG (m:=m) (e:=0) hl h2;rw[if_pos rfl];cases h3:de (aq l) (dP aH) (j+1)with
    |bad er k=>
     have cn:=cM (m:=m) (e:=0) hl h3;refine lS.call mixed rfl ?_;iterate 40 all_goals ((try conv=>whnf);try first|(with_reducible first|refine zY ?_|refine zN ?_|refine zT ?_|refine br (fun _=> ?_) (fun _=> ?_)|refine⟨rfl,?_⟩)|(refine cg.call rfl ?_)|(refine c.call rfl ?_)|(refine xM.call rfl ?_)|(refine cn.bO rfl fun h=> ?_))
    |ok s k=>
     have cn:=dz (m:=m) (e:=0) hl h3;dsimp only;refine j0 (l5) kZ (lS.call mixed rfl ?_);iterate 40 all_goals ((try conv=>whnf);try first|(with_reducible first|refine zY ?_|refine zN ?_|refine zT ?_|refine br (fun _=> ?_) (fun _=> ?_)|refine⟨rfl,?_⟩)|(refine cg.call rfl ?_)|(refine c.call rfl ?_)|(refine xM.call rfl ?_)|(refine cn.call rfl ?_)|(refine cB rfl (by decide) ?_))
     exact⟨fun k=>Nat.blt 2 k&& !Nat.beq k 5,_,_,.inl rfl,.refl,rfl,5,by decide,rfl⟩
theorem ON(hl:l.length<=65536)(i:Nat)(hi:i<=l.length){g:Nat}(xs:List _)(hx:xs.length<=1000):aZ Tryz.prog 133 (aT true) ⟨4,[(3,.vec g 11 (xs.map sU) ⟨true,some 103⟩),(2,(fun v=>mV (iZ 1 [] [] .ak .ak false .ak .ak v .ak .ak .ak (-1) .ak)) (.sl 3 g 11 0 xs.length none)),(1,lZ),(0,dx l i m 0)]⟩ (Cd l m 0 (fun v=>mV (iZ 1 [] [] .ak .ak false .ak .ak v .ak .ak .ak (-1) .ak)) 103 11 sU g xs (qK (aq l) (dP aH) (bD l) i)):=by
 unfold qK;cases h1:cj (aq l) [42] i with
 |true=>
  have cg:=bG (m:=m) (e:=0) hl h1;rw[if_pos rfl];refine ke (l5) kZ (lS.call mixed rfl ?_);iterate 30 all_goals ((try conv=>whnf);try first|(with_reducible first|refine zY ?_|refine zN ?_|refine zT ?_|refine br (fun _=> ?_) (fun _=> ?_)|refine⟨rfl,?_⟩)|(refine cg.call rfl ?_)|(refine bA (by simp) rfl (by decide) rfl (by omega) (by omega) ?_))
  exact⟨fun k=>Nat.blt 3 k,_,_,.inl rfl,.cons (GV (Ce)) .refl,rfl,rfl⟩
 |false=>
  have cg:=bU (m:=m) (e:=0) hl h1;rw[if_neg (by decide)];have hX:=fL (m:=m) hl;cases hf:bD l i with
  |bad er j=>
   have c:=hX.bad hi hf;refine lS.call mixed rfl ?_;iterate 30 all_goals ((try conv=>whnf);try first|(with_reducible first|refine zY ?_|refine zN ?_|refine zT ?_|refine br (fun _=> ?_) (fun _=> ?_)|refine⟨rfl,?_⟩)|(refine cg.call rfl ?_)|(refine c.bO rfl fun h=> ?_))
  |ok x j=>
   have c:=hX.ok hi hf;have hj:=(eO i x j hi hf).2;obtain⟨op,v,tb,nm,slot,kd,args⟩:=x;rw[bt]at c;dsimp only[aF.then,Mv];cases h2:cj (aq l) [97,115] j with
   |false=>
    have xM:=bU (m:=m) (e:=0) hl h2;rw[if_neg (by decide)];dsimp only;refine ke (l5) kZ (lS.call mixed rfl ?_);iterate 40 all_goals ((try conv=>whnf);try first|(with_reducible first|refine zY ?_|refine zN ?_|refine zT ?_|refine br (fun _=> ?_) (fun _=> ?_)|refine⟨rfl,?_⟩)|(refine cg.call rfl ?_)|(refine c.call rfl ?_)|(refine xM.call rfl ?_)|(refine bA (by simp) rfl (by decide) rfl (by omega) (by omega) ?_))
    exact⟨fun k=>Nat.blt 3 k,_,_,.inl rfl,.refl,rfl,rfl⟩
   |true=>
    have xM:=bG (m:=m) (e:=0) hl h2;rw[if_pos rfl];cases h3:de (aq l) (dP aH) (j+1)with
    |bad er k=>
     have cn:=cM (m:=m) (e:=0) hl h3;refine lS.call mixed rfl ?_;iterate 40 all_goals ((try conv=>whnf);try first|(with_reducible first|refine zY ?_|refine zN ?_|refine zT ?_|refine br (fun _=> ?_) (fun _=> ?_)|refine⟨rfl,?_⟩)|(refine cg.call rfl ?_)|(refine c.call rfl ?_)|(refine xM.call rfl ?_)|(refine cn.bO rfl fun h=> ?_))
    |ok s k=>
     have cn:=dz (m:=m) (e:=0) hl h3;dsimp only;refine ke (l5) kZ (lS.call mixed rfl ?_);iterate 40 all_goals ((try conv=>whnf);try first|(with_reducible first|refine zY ?_|refine zN ?_|refine zT ?_|refine br (fun _=> ?_) (fun _=> ?_)|refine⟨rfl,?_⟩)|(refine cg.call rfl ?_)|(refine c.call rfl ?_)|(refine xM.call rfl ?_)|(refine cn.call rfl ?_)|(refine bA (by simp) rfl (by decide) rfl (by omega) (by omega) ?_))
     exact⟨fun k=>Nat.blt 3 k,_,_,.inl rfl,.refl,rfl,rfl⟩
theorem Ju(hl:l.length<=65536):oh true 133 l m 0 (fun v=>mV (iZ 1 [] [] .ak .ak false .ak .ak v .ak .ak .ak (-1) .ak)) 103 11 (qK (aq l) (dP aH) (bD l)) sU:=
 oh.of (l5) rfl kZ (Cf) (fun i hi=>OM hl i hi) fun i xs g hi hx=>ON hl i hi xs hx
end
end Go.Proofs.YtbjifmbemdhndaaGreatDoor
