/- Parts of the proof of PParserDepth, one behind the other, with short names. -/
import Derived.Test.YtbjifmbemdhndaaGreatDoorY15
set_option linter.unusedVariables false
set_option linter.unusedSimpArgs false
namespace Ab
open Go
section
theorem zM{n:Nat}{ops:Array Oper}{pre:Bool}{P:Program}{o:Oper}{c:Cx}{h:Heap}{w:World}{e:Env}{a:Act}{run skip:Env->Prop}(he:ER c h w e a.tmps)(hn:a.tmps.size=n)
  (hp:fh e (bt P n ops pre o).guard run skip)(hrun: ∀e,ER c h w e a.tmps->run e->Region.wanted o (yielded ops a.tmps)=true->(∀ d,o.dst=some d->d<n)->(bt P n ops pre o).dst=o.dst->(bt P n ops pre o).op=ko P o.op->False)
  (jN: ∀e,ER c h w e a.tmps->skip e->Region.wanted o (yielded ops a.tmps)=false->(∀ d,o.dst=some d->d<n)->(bt P n ops pre o).dst=o.dst->False)
  (kY:run e->(bt P n ops pre o).op= .bad->False):False:=by
 unfold bt at hp hrun jN kY;dsimp only at hp hrun jN kY;cases hd:nC n o
 ·rw[hd]at hp kY
  simp only[cond_false,fh]at hp kY;exact kY hp (by first|rfl|trivial)
 ·have hlt: ∀d,o.dst=some d->d<n:=fun d ku=>by
   unfold nC at hd;rw[ku]at hd;exact Nat.lt_of_succ_le (by simpa[Nat.blt]using hd)
  rw[hd]at hp hrun jN kY;simp only[cond_true]at hp hrun jN kY;cases hg:o.guard with
  |none=>
   rw[hg]at hp hrun;simp only[fh]at hp;exact hrun e he hp (by simp[Region.wanted,hg]) hlt (by first|rfl|trivial) (by first|rfl|trivial)
  |some gw=>
   obtain⟨j,want⟩:=gw;rw[hg]at hp hrun jN kY;dsimp only at hp hrun jN kY;cases ht:(ops[j]?).bind (·.dst)with
   |none=>
    rw[ht]at hp kY;simp only[fh]at hp kY;exact kY hp (by first|rfl|trivial)
   |some t=>
    rw[ht]at hp hrun jN kY;dsimp only at hp hrun jN kY;cases hb:Nat.blt t n
    ·rw[hb]at hp kY
     simp only[cond_false,fh]at hp kY;exact kY hp (by first|rfl|trivial)
    ·have R5:t<n:=by
      exact Nat.lt_of_succ_le (by simpa[Nat.blt]using hb)
     rw[hb]at hp hrun jN kY;simp only[cond_true,fh,gJ]at hp hrun jN;have hv:=he t
     have fU:a.tmps[t]? =some (a.tmps.getD t undef):=by
      rw[Array.getD_eq_getD_getElem?];have:t<a.tmps.size:=by rw[hn];exact R5
      simp[this]
     split at hp
     ·rename_i x hx
      rw[hx]at hv;have hv:=hv.cP
      have hy:yielded ops a.tmps j=some x:=by
       unfold yielded;rw[ht,Option.bind_some,fU,hv]
      have hput: ∀b,b=x->ER c h w (Env.put e t (.bool b)) a.tmps:=by
       rintro b rfl u;rw[n9];by_cases hu:u=t
       ·subst hu;rw[if_pos rfl,hv];exact .bool
       ·rw[if_neg hu];exact he u
      have hw:Region.wanted o (yielded ops a.tmps)=(x==want):=by
       simp[Region.wanted,hg,hy]
      cases x<;>cases want<;>simp only[n8]at hp
      ·exact hrun _ (hput _ rfl) hp (by rw[hw];rfl) hlt (by first|rfl|trivial) (by first|rfl|trivial)
      ·exact jN _ (hput _ rfl) hp (by rw[hw];rfl) hlt (by first|rfl|trivial)
      ·exact jN _ (hput _ rfl) hp (by rw[hw];rfl) hlt (by first|rfl|trivial)
      ·exact hrun _ (hput _ rfl) hp (by rw[hw];rfl) hlt (by first|rfl|trivial) (by first|rfl|trivial)
     ·rename_i l hx
      rw[hx]at hv;obtain⟨cs,hcs,_⟩:=hv.kB
      have hy:yielded ops a.tmps j=none:=by
       unfold yielded;rw[ht,Option.bind_some,fU,hcs]
      exact jN _ he hp (by simp[Region.wanted,hg,hy]) hlt (by first|rfl|trivial)
     ·exact hp.elim
theorem DV{P:Program}{Γ:bH}(fF:Γ.Ok P){n:Nat}{ops:Array Oper}{pre:Bool}{Q:Exit->Act->World->Prop}{i:Nat}{o:Oper}(hi:ops[i]? =some o){c:Cx}{h:Heap}{w:World}{e:Env}{a:Act}{K:Act->World->Prop}
  (hr:bP c h w)(he:ER c h w e a.tmps)(hn:a.tmps.size=n){k:Env->Heap->Prop}{kp:SV->Env->Heap->Prop}
  (hp:fh e (bt P n ops pre o).guard
   (fun e=>bw P Γ (bt P n ops pre o).op e h (fun v h'=>lJ e (bt P n ops pre o).dst v fun e'=>k e' h') (fun v h'=>kp v e h'))
   (fun e=>lJ e (bt P n ops pre o).dst (.aN []) fun e'=>k e' h))
  (hk: ∀e' h' c' a' w',k e' h'->bP c' h' w'->Ext c h w c' h' w'->ER c' h' w' e' a'.tmps->a'.tmps.size=n->a'.defers=a.defers->K a' w')
  (hkp: ∀v x e' h' c' w',kp v e' h'->bP c' h' w'->Ext c h w c' h' w'->ER c' h' w' e' a.tmps->VR c' h' w' v x->Q (.panic [{v:=x,recovered:=false}]) a w'):
  wpOp P ops Q i K a w:=by
 refine Classical.byContradiction fun hneg=>zM he hn hp (fun e he hp hw hlt dZ hop=>hneg ?_) (fun e he hp hw hlt dZ=>hneg ?_) (fun hp hb=>by rw[hb]at hp;exact hp)
 ·unfold wpOp
  rw[hi];dsimp only;rw[if_pos hw];rw[hop,dZ]at hp;refine .inl (Ka fF hr he hp (fun v x h' c' w' hkk hr' hx hv=> ?_) (fun v x h' c' w' hkk hr' hx hv=>hkp v x e h' c' w' hkk hr' hx (he.mono hr hx) hv));rw[fS]at hkk;exact hk _ h' c' _ w' hkk hr' hx ((he.mono hr hx).put (fun t ht=>by rw[hn];exact hlt t ht) hv) (by rw[iL];exact hn) (put_defers _ _ _)
 ·unfold wpOp
  rw[hi];dsimp only;rw[if_neg (by rw[hw];decide)];rw[dZ,fS]at hp;exact hk _ h c _ w hp hr .refl (he.put (fun t ht=>by rw[hn];exact hlt t ht) (.pure (.aN _ _ rfl fun i v x hv=>by simp at hv))) (by rw[iL];exact hn) (put_defers _ _ _)
theorem uh{P:Program}{Γ:bH}(fF:Γ.Ok P){n:Nat}{ops:Array Oper}{Q:Exit->Act->World->Prop}{k:Env->Heap->Prop}{kp:SV->Env->Heap->Prop}:
  ∀(m j:Nat) (c:Cx) (h:Heap) (w:World) (e:Env) (a:Act),j+m=ops.size->Ly P Γ ((ops.toList.drop j).map (bt P n ops false)) e h k kp->bP c h w->ER c h w e a.tmps->a.tmps.size=n->
  (∀ e' h' c' a' w',k e' h'->bP c' h' w'->Ext c h w c' h' w'->ER c' h' w' e' a'.tmps->a'.tmps.size=n->a'.defers=a.defers->Q .normal a' w')->
  (∀ v x e' h' c' a' w',kp v e' h'->bP c' h' w'->Ext c h w c' h' w'->ER c' h' w' e' a'.tmps->a'.tmps.size=n->a'.defers=a.defers->VR c' h' w' v x->Q (.panic [{v:=x,recovered:=false}]) a' w')->
  wpOps P ops Q (List.range' j m) a w
 |0,j,c,h,w,e,a,hj,hp,hr,he,hn,hk,hkp=>by
  have:ops.toList.drop j=[]:=List.drop_eq_nil_iff.2 (by simp;omega);rw[this]at hp;exact hk e h c a w hp hr .refl he hn rfl
 |m+1,j,c,h,w,e,a,hj,hp,hr,he,hn,hk,hkp=>by
  have hlt:j<ops.size:=by omega
  have hd:ops.toList.drop j=ops[j]::ops.toList.drop (j+1):=by
   rw[List.drop_eq_getElem_cons (by simpa using hlt)];simp
  rw[hd,List.map_cons]at hp;rw[List.range'_succ,wpOps_cons];refine DV fF (k:=fun e' h'=>Ly P Γ ((ops.toList.drop (j+1)).map (bt P n ops false)) e' h' k kp) (kp:=kp) (Array.getElem?_eq_getElem hlt) hr he hn hp (fun e' h' c' a' w' hkk hr' hx he' hn' hdf=> ?_) (fun v x e' h' c' w' hkk hr' hx he' hv=>hkp v x e' h' c' a w' hkk hr' hx he' hn rfl hv);refine uh fF m (j+1) c' h' w' e' a' (by omega) hkk hr' he' hn' (fun e2 h2 c2 a2 w2 hk2 iw hx2 jq hn2 L3=> ?_) (fun v x e2 h2 c2 a2 w2 hk2 iw hx2 jq hn2 L3 hv=> ?_)
  ·exact hk e2 h2 c2 a2 w2 hk2 iw (hx.trans hr hx2) jq hn2 (L3.trans hdf)
  ·exact hkp v x e2 h2 c2 a2 w2 hk2 iw (hx.trans hr hx2) jq hn2 (L3.trans hdf) hv
def erase:bD->bD
 | .skip=> .skip
 | .region ops _=> .region ops []
 | .aQ ops _ _=> .aQ ops [] []
 | .seq a b=> .seq (erase a) (erase b)
 | .cond c a b=> .cond c (erase a) (erase b)
 | .block id b=> .block id (erase b)
 | .loop b=> .loop (erase b)
 | .exit id=> .exit id
 | .ret=> .ret
 | .bad=> .bad
def Ur(c:Cx)(h:Heap)(w:World):Exit->ck->Prop
 | .normal,.normal=>True
 | .exit i,.exit j=>i=j
 | .ret,.ret=>True
 | .panic ch,.panic v=> ∃x,ch=[{v:=x,recovered:=false}]/\VR c h w v x
 |_,_=>False
def Post(c:Cx)(h:Heap)(w:World)(Q:ck->Env->Heap->Prop)(n:Nat)(ds:List Deferred)(ex:Exit)(a':Act)(w':World):Prop:=
 ∃c' h' e' x,Q x e' h'/\bP c' h' w'/\Ext c h w c' h' w'/\ER c' h' w' e' a'.tmps/\a'.tmps.size=n/\a'.defers=ds/\Ur c' h' w' ex x
def Sq(P:Program)(n:Nat)(code:Code)(Q:ck->Env->Heap->Prop)(e:Env)(h:Heap):Prop:=
 ∀(c:Cx) (w:World) (a:Act),bP c h w->ER c h w e a.tmps->a.tmps.size=n->code.wp P (Post c h w Q n a.defers) a w
def eK:bD->Bool
 | .aQ ops ord _=>DO ops ord
 | .seq a b| .cond _ a b=>eK a&&eK b
 | .block _ b| .loop b=>eK b
 |_=>true
structure dx(P:Program)(b:bD)(Q:ck->Env->Heap->Prop)(e:Env)(h:Heap):Prop where
 run: ∀n code,P.follows .mixedOrders=true->eK b=true->erase b=bW P n code->Sq P n (.loop code) Q e h
def Sr(k:Env->Heap->Prop)(Q:ck->Env->Heap->Prop):ck->Env->Heap->Prop
 | .normal,e,h=>k e h
 |x,e,h=>Q x e h
def BR(id:Nat)(Q:ck->Env->Heap->Prop):ck->Env->Heap->Prop
 | .exit j,e,h=> @Bool.rec (fun _=>Prop) (Q (.exit j) e h) (Q .normal e h) (Nat.beq j id)
 |x,e,h=>Q x e h
def oO(c:aR)(e:Env)(h:Heap)(a b:Env->Heap->Prop):Prop:=match c with
    | .tmp t=>Env.sO e t fun c=>match c with
      | .bool x=> @Bool.rec (fun _=>Prop) (Env.yO e t (.bool false) fun e=>b e h) (Env.yO e t (.bool true) fun e=>a e h) x
      |_=>False
    | .const c=>match c with
      | .bool x=> @Bool.rec (fun _=>Prop) (b e h) (a e h) x
      |_=>False
abbrev iO:=bD->(ck->Env->Heap->Prop)->Env->Heap->Prop
def nh(P:Program)(Γ:bH)(Λ:iO)(code:bD):(ck->Env->Heap->Prop)->Env->Heap->Prop:=
 @bD.rec (fun _=>(ck->Env->Heap->Prop)->Env->Heap->Prop)
  (fun Q e h=>Q .normal e h)
  (fun ops fg Q e h=>Ly P Γ ops e h (fun e' h'=>Env.o8 fg e' fun e''=>Q .normal e'' h') (fun v e' h'=>Q (.panic v) e' h'))
  (fun ops ord fg Q e h=>ju P Γ ops ord e h (fun e' h'=>Env.o8 fg e' fun e''=>Q .normal e'' h') (fun v e' h'=>Q (.panic v) e' h'))
  (fun _ _ a b Q e h=>a (Sr (b Q) Q) e h)
  (fun c _ _ a b Q e h=>oO c e h (a Q) (b Q))
  (fun id _ b Q e h=>b (BR id Q) e h)
  (fun b _ Q e h=>Λ b Q e h)
  (fun id Q e h=>Q (.exit id) e h)
  (fun Q e h=>Q .ret e h)
  (fun _ _ _=>False) code
def Gw(P:Program)(code:bD):(ck->Env->Heap->Prop)->Env->Heap->Prop:=nh P (si P) (dx P) code
section
variable {P:Program} {Γ:bH} {n:Nat}
theorem Post.of{c:Cx}{h:Heap}{w:World}{Q:ck->Env->Heap->Prop}{ds:List Deferred}{ex:Exit}{a':Act}{w':World}{c1:Cx}{h1:Heap}{w1:World}(hr:bP c h w)(hx:Ext c h w c1 h1 w1)
  (hp:Post c1 h1 w1 Q n ds ex a' w'):Post c h w Q n ds ex a' w':=by
 obtain⟨c',h',e',x,hq,hr',hx',he',hn',hd',hex⟩:=hp;exact⟨c',h',e',x,hq,hr',hx.trans hr hx',he',hn',hd',hex⟩
theorem dN{Λ:iO}(fF:Γ.Ok P)(mb: ∀b Q e h,Λ b Q e h->dx P b Q e h)(hm:P.follows .mixedOrders=true): ∀(code:Code) (ac:bD) (Q:ck->Env->Heap->Prop) (e:Env) (h:Heap),eK ac=true->erase ac=bW P n code->nh P Γ Λ ac Q e h->Sq P n code Q e h
 | .skip,ac,Q,e,h,ho,hc,hp=>by
   cases ac<;>simp only[erase,bW]at hc<;>try cases hc
   intro c w a hr he hn;exact wp_skip ⟨c,h,e,.normal,hp,hr,.refl,he,hn,rfl,trivial⟩
 | .region id ops false,ac,Q,e,h,ho,hc,hp=>by
   simp only[bW,cond_false]at hc;cases ac<;>simp only[erase]at hc<;>try cases hc
   intro c w a hr he hn;refine wp_region ?_;rw[List.range_eq_range'];refine uh fF ops.size 0 c h w e a (by simp) (by rw[List.drop_zero];exact hp) hr he hn (fun e' h' c' a' w' hk hr' hx he' hn' hd'=> ?_) (fun v x e' h' c' a' w' hk hr' hx he' hn' hd' hv=> ?_)
   ·rw[lK]at hk
    exact⟨c',h',_,.normal,hk,hr',hx,he'.mT _,hn',hd',trivial⟩
   ·exact⟨c',h',e',.panic v,hk,hr',hx,he',hn',hd',x,rfl,hv⟩
 | .region id ops true,ac,Q,e,h,ho,hc,hp=>by
   simp only[bW,cond_true]at hc;cases ac<;>simp only[erase]at hc<;>try cases hc
   intro c w a hr he hn;refine ug fF hm ho hp hr he hn (fun e' h' c' a' w' hk hr' hx he' hn' hd'=> ?_) (fun v x h' c' a' w' hk hr' hx hn' hd' hv=> ?_)
   ·rw[lK]at hk
    exact⟨c',h',_,.normal,hk,hr',hx,he'.mT _,hn',hd',trivial⟩
   ·exact⟨c',h',[],.panic v,hk,hr',hx,fun t=> .undef,hn',hd',x,rfl,hv⟩
 | .seq x y,ac,Q,e,h,ho,hc,hp=>by
   cases ac<;>simp only[erase,bW,bD.seq.injEq,reduceCtorEq]at hc
   rename_i ax ay;simp only[eK,Bool.and_eq_true]at ho;intro c w a hr he hn;refine wp_seq (wp_mono (dN fF mb hm x ax _ e h ho.1 hc.1 hp c w a hr he hn) fun ex a' w' hpost=> ?_);obtain⟨c',h',e',xx,hq,hr',hx',he',hn',hd',hex⟩:=hpost;cases ex with
   |normal=>
    cases xx<;>try exact hex.elim
    simp only[Exit.then];have:=dN fF mb hm y ay Q e' h' ho.2 hc.2 hq c' w' a' hr' he' hn';rw[hd']at this;exact wp_mono this fun _ _ _ ru=>ru.of hr hx'
   |exit i=>cases xx<;>first|exact hex.elim|exact⟨c',h',e',_,hq,hr',hx',he',hn',hd',hex⟩
   |goto l=>cases xx<;>exact hex.elim
   |ret=>cases xx<;>first|exact hex.elim|exact⟨c',h',e',_,hq,hr',hx',he',hn',hd',hex⟩
   |panic ch=>cases xx<;>first|exact hex.elim|exact⟨c',h',e',_,hq,hr',hx',he',hn',hd',hex⟩
   |outgrown=>cases xx<;>exact hex.elim
 | .cond cc x y,ac,Q,e,h,ho,hc,hp=>by
   cases ac<;>simp only[erase,bW,bD.cond.injEq,reduceCtorEq]at hc
   rename_i ac ax ay;obtain⟨Bw,Kk,Pt⟩:=hc;simp only[eK,Bool.and_eq_true]at ho;intro c w a hr he hn;have hv:=he.ev cc;rw[<- Bw]at hv;cases ac with
   |tmp t=>
    replace hp:oO (.tmp t) e h (nh P Γ Λ ax Q) (nh P Γ Λ ay Q):=hp
    simp only[oO,gJ]at hp;have hev:(aR.tmp t).ev e=Env.get e t:=rfl;rw[hev]at hv;split at hp
    ·rename_i b hb
     rw[hb]at hv;have E2:=hv.cP;refine wp_cond E2 ?_
     have hput: ∀b',b'=b->ER c h w (Env.put e t (.bool b')) a.tmps:=by
      rintro b' rfl u;rw[n9];by_cases hu:u=t
      ·subst hu
       rw[if_pos rfl];have:=he u;rw[hb]at this;exact this
      ·rw[if_neg hu];exact he u
     cases b<;>simp only[n8]at hp
     ·exact dN fF mb hm y ay Q _ h ho.2 Pt hp c w a hr (hput _ rfl) hn
     ·exact dN fF mb hm x ax Q _ h ho.1 Kk hp c w a hr (hput _ rfl) hn
    ·exact hp.elim
   |const v=>
    replace hp:oO (.const v) e h (nh P Γ Λ ax Q) (nh P Γ Λ ay Q):=hp
    simp only[oO]at hp;have hev:(aR.const v).ev e=v:=rfl;rw[hev]at hv;split at hp
    ·have E2:=hv.cP
     refine wp_cond E2 ?_;rename_i b;cases b
     ·exact dN fF mb hm y ay Q _ h ho.2 Pt hp c w a hr he hn
     ·exact dN fF mb hm x ax Q _ h ho.1 Kk hp c w a hr he hn
    ·exact hp.elim
 | .block id b,ac,Q,e,h,ho,hc,hp=>by
   cases ac<;>simp only[erase,bW,bD.block.injEq,reduceCtorEq]at hc
   rename_i Ss ab;obtain⟨rfl,hc⟩:=hc;intro c w a hr he hn;refine wp_block (wp_mono (dN fF mb hm b ab _ e h ho hc hp c w a hr he hn) fun ex a' w' hpost=> ?_);obtain⟨c',h',e',xx,hq,hr',hx',he',hn',hd',hex⟩:=hpost;cases ex with
   |normal=>cases xx<;>first|exact hex.elim|exact⟨c',h',e',_,hq,hr',hx',he',hn',hd',hex⟩
   |exit i=>
    cases xx<;>try exact hex.elim
    rename_i j;have hij:i=j:=hex;subst hij;simp only[Exit.inBlock];rcases bE i Ss with⟨hb,hb'⟩|⟨hb,hb'⟩
    ·rw[if_pos hb']
     simp only[BR,hb]at hq;exact⟨c',h',e',.normal,hq,hr',hx',he',hn',hd',trivial⟩
    ·rw[if_neg hb']
     simp only[BR,hb]at hq;exact⟨c',h',e',.exit i,hq,hr',hx',he',hn',hd',rfl⟩
   |goto l=>cases xx<;>exact hex.elim
   |ret=>cases xx<;>first|exact hex.elim|exact⟨c',h',e',_,hq,hr',hx',he',hn',hd',hex⟩
   |panic ch=>cases xx<;>first|exact hex.elim|exact⟨c',h',e',_,hq,hr',hx',he',hn',hd',hex⟩
   |outgrown=>cases xx<;>exact hex.elim
 | .loop b,ac,Q,e,h,ho,hc,hp=>by
   cases ac<;>simp only[erase,bW,bD.loop.injEq,reduceCtorEq]at hc
   exact(mb _ _ _ _ hp).run n b hm ho hc
 | .exit id,ac,Q,e,h,ho,hc,hp=>by
   cases ac<;>simp only[erase,bW,bD.exit.injEq,reduceCtorEq]at hc
   subst hc;intro c w a hr he hn;exact wp_exit ⟨c,h,e,.exit _,hp,hr,.refl,he,hn,rfl,rfl⟩
 | .ret,ac,Q,e,h,ho,hc,hp=>by
   cases ac<;>simp only[erase,bW,reduceCtorEq]at hc
   intro c w a hr he hn;exact wp_ret ⟨c,h,e,.ret,hp,hr,.refl,he,hn,rfl,trivial⟩
 | .rangeFunc _ _ _ _,ac,Q,e,h,ho,hc,hp=>by
   cases ac<;>simp only[erase,bW,reduceCtorEq]at hc
   exact hp.elim
 | .scope _,ac,Q,e,h,ho,hc,hp=>by
   cases ac<;>simp only[erase,bW,reduceCtorEq]at hc
   exact hp.elim
 | .label _,ac,Q,e,h,ho,hc,hp=>by
   cases ac<;>simp only[erase,bW,reduceCtorEq]at hc
   exact hp.elim
 | .goto _,ac,Q,e,h,ho,hc,hp=>by
   cases ac<;>simp only[erase,bW,reduceCtorEq]at hc
   exact hp.elim
 | .refuse _,ac,Q,e,h,ho,hc,hp=>by
   cases ac<;>simp only[erase,bW,reduceCtorEq]at hc
   exact hp.elim
theorem lU(hm:P.follows .mixedOrders=true)(code:Code)(ac:bD)(Q:ck->Env->Heap->Prop)(e:Env)(h:Heap)(ho:eK ac=true)(hc:erase ac=bW P n code)(hp:Gw P ac Q e h):Sq P n code Q e h:=
 dN (Γ:=si P) (Λ:=dx P) lI (fun _ _ _ _ h=>h) hm code ac Q e h ho hc hp
end
end
end Ab
