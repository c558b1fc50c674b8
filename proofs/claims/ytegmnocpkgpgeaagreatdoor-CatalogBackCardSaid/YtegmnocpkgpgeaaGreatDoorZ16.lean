/- Parts of the proof of PCatalogBack, one behind the other, with short names. -/
import Derived.Test.YtegmnocpkgpgeaaGreatDoorZ15
set_option linter.unusedVariables false
set_option linter.unusedSimpArgs false
namespace Ab
open Go
section
theorem CF{n:Nat}{ops:Array Oper}{pre:Bool}{P:Program}{o:Oper}{c:Cx}{h:Heap}{w:World}{e:Env}{a:Act}{run skip:Env->Prop}(he:ER c h w e a.tmps)(hn:a.tmps.size=n)
  (hp:fK e (bD P n ops pre o).guard run skip)(hrun: ∀e,ER c h w e a.tmps->run e->Region.wanted o (yielded ops a.tmps)=true->(∀ d,o.dst=some d->d<n)->(bD P n ops pre o).dst=o.dst->(bD P n ops pre o).op=mb P o.op->False)
  (lM: ∀e,ER c h w e a.tmps->skip e->Region.wanted o (yielded ops a.tmps)=false->(∀ d,o.dst=some d->d<n)->(bD P n ops pre o).dst=o.dst->False)
  (eO:run e->(bD P n ops pre o).op= .bad->False):False:=by
 unfold bD at hp hrun lM eO;dsimp only at hp hrun lM eO;cases hd:pI n o
 ·rw[hd]at hp eO
  simp only[cond_false,fK]at hp eO;exact eO hp (by first|rfl|trivial)
 ·have hlt: ∀d,o.dst=some d->d<n:=fun d mA=>by
   unfold pI at hd;rw[mA]at hd;exact Nat.lt_of_succ_le (by simpa[Nat.blt]using hd)
  rw[hd]at hp hrun lM eO;simp only[cond_true]at hp hrun lM eO;cases hg:o.guard with
  |none=>
   rw[hg]at hp hrun;simp only[fK]at hp;exact hrun e he hp (by simp[Region.wanted,hg]) hlt (by first|rfl|trivial) (by first|rfl|trivial)
  |some gw=>
   obtain⟨j,want⟩:=gw;rw[hg]at hp hrun lM eO;dsimp only at hp hrun lM eO;cases ht:(ops[j]?).bind (·.dst)with
   |none=>
    rw[ht]at hp eO;simp only[fK]at hp eO;exact eO hp (by first|rfl|trivial)
   |some t=>
    rw[ht]at hp hrun lM eO;dsimp only at hp hrun lM eO;cases hb:Nat.blt t n
    ·rw[hb]at hp eO
     simp only[cond_false,fK]at hp eO;exact eO hp (by first|rfl|trivial)
    ·have Xx:t<n:=by
      exact Nat.lt_of_succ_le (by simpa[Nat.blt]using hb)
     rw[hb]at hp hrun lM eO;simp only[cond_true,fK,iT]at hp hrun lM;have hv:=he t
     have hU:a.tmps[t]? =some (a.tmps.getD t undef):=by
      rw[Array.getD_eq_getD_getElem?];have:t<a.tmps.size:=by rw[hn];exact Xx
      simp[this]
     split at hp
     ·rename_i x hx
      rw[hx]at hv;have hv:=hv.dm
      have hy:yielded ops a.tmps j=some x:=by
       unfold yielded;rw[ht,Option.bind_some,hU,hv]
      have hput: ∀b,b=x->ER c h w (Env.put e t (.bool b)) a.tmps:=by
       rintro b rfl u;rw[qm];by_cases hu:u=t
       ·subst hu;rw[if_pos rfl,hv];exact .bool
       ·rw[if_neg hu];exact he u
      have hw:Region.wanted o (yielded ops a.tmps)=(x==want):=by
       simp[Region.wanted,hg,hy]
      cases x<;>cases want<;>simp only[ql]at hp
      ·exact hrun _ (hput _ rfl) hp (by rw[hw];rfl) hlt (by first|rfl|trivial) (by first|rfl|trivial)
      ·exact lM _ (hput _ rfl) hp (by rw[hw];rfl) hlt (by first|rfl|trivial)
      ·exact lM _ (hput _ rfl) hp (by rw[hw];rfl) hlt (by first|rfl|trivial)
      ·exact hrun _ (hput _ rfl) hp (by rw[hw];rfl) hlt (by first|rfl|trivial) (by first|rfl|trivial)
     ·rename_i l hx
      rw[hx]at hv;obtain⟨cs,hcs,_⟩:=hv.mh
      have hy:yielded ops a.tmps j=none:=by
       unfold yielded;rw[ht,Option.bind_some,hU,hcs]
      exact lM _ he hp (by simp[Region.wanted,hg,hy]) hlt (by first|rfl|trivial)
     ·exact hp.elim
theorem Gq{P:Program}{Γ:bR}(gd:Γ.Ok P){n:Nat}{ops:Array Oper}{pre:Bool}{Q:Exit->Act->World->Prop}{i:Nat}{o:Oper}(hi:ops[i]? =some o){c:Cx}{h:Heap}{w:World}{e:Env}{a:Act}{K:Act->World->Prop}
  (hr:bT c h w)(he:ER c h w e a.tmps)(hn:a.tmps.size=n){k:Env->Heap->Prop}{kp:SV->Env->Heap->Prop}
  (hp:fK e (bD P n ops pre o).guard
   (fun e=>bF P Γ (bD P n ops pre o).op e h (fun v h'=>nE e (bD P n ops pre o).dst v fun e'=>k e' h') (fun v h'=>kp v e h'))
   (fun e=>nE e (bD P n ops pre o).dst (.bn []) fun e'=>k e' h))
  (hk: ∀e' h' c' a' w',k e' h'->bT c' h' w'->Ext c h w c' h' w'->ER c' h' w' e' a'.tmps->a'.tmps.size=n->a'.defers=a.defers->K a' w')
  (hkp: ∀v x e' h' c' w',kp v e' h'->bT c' h' w'->Ext c h w c' h' w'->ER c' h' w' e' a.tmps->VR c' h' w' v x->Q (.panic [{v:=x,recovered:=false}]) a w'):
  wpOp P ops Q i K a w:=by
 refine Classical.byContradiction fun hneg=>CF he hn hp (fun e he hp hw hlt eA hop=>hneg ?_) (fun e he hp hw hlt eA=>hneg ?_) (fun hp hb=>by rw[hb]at hp;exact hp)
 ·unfold wpOp
  rw[hi];dsimp only;rw[if_pos hw];rw[hop,eA]at hp;refine .inl (Ph gd hr he hp (fun v x h' c' w' hkk hr' hx hv=> ?_) (fun v x h' c' w' hkk hr' hx hv=>hkp v x e h' c' w' hkk hr' hx (he.mono hr hx) hv));rw[gZ]at hkk;exact hk _ h' c' _ w' hkk hr' hx ((he.mono hr hx).put (fun t ht=>by rw[hn];exact hlt t ht) hv) (by rw[kr];exact hn) (put_defers _ _ _)
 ·unfold wpOp
  rw[hi];dsimp only;rw[if_neg (by rw[hw];decide)];rw[eA,gZ]at hp;exact hk _ h c _ w hp hr .refl (he.put (fun t ht=>by rw[hn];exact hlt t ht) (.pure (.bn _ _ rfl fun i v x hv=>by simp at hv))) (by rw[kr];exact hn) (put_defers _ _ _)
theorem wN{P:Program}{Γ:bR}(gd:Γ.Ok P){n:Nat}{ops:Array Oper}{Q:Exit->Act->World->Prop}{k:Env->Heap->Prop}{kp:SV->Env->Heap->Prop}:
  ∀(m j:Nat) (c:Cx) (h:Heap) (w:World) (e:Env) (a:Act),j+m=ops.size->Qk P Γ ((ops.toList.drop j).map (bD P n ops false)) e h k kp->bT c h w->ER c h w e a.tmps->a.tmps.size=n->
  (∀ e' h' c' a' w',k e' h'->bT c' h' w'->Ext c h w c' h' w'->ER c' h' w' e' a'.tmps->a'.tmps.size=n->a'.defers=a.defers->Q .normal a' w')->
  (∀ v x e' h' c' a' w',kp v e' h'->bT c' h' w'->Ext c h w c' h' w'->ER c' h' w' e' a'.tmps->a'.tmps.size=n->a'.defers=a.defers->VR c' h' w' v x->Q (.panic [{v:=x,recovered:=false}]) a' w')->
  wpOps P ops Q (List.range' j m) a w
 |0,j,c,h,w,e,a,hj,hp,hr,he,hn,hk,hkp=>by
  have:ops.toList.drop j=[]:=List.drop_eq_nil_iff.2 (by simp;omega);rw[this]at hp;exact hk e h c a w hp hr .refl he hn rfl
 |m+1,j,c,h,w,e,a,hj,hp,hr,he,hn,hk,hkp=>by
  have hlt:j<ops.size:=by omega
  have hd:ops.toList.drop j=ops[j]::ops.toList.drop (j+1):=by
   rw[List.drop_eq_getElem_cons (by simpa using hlt)];simp
  rw[hd,List.map_cons]at hp;rw[List.range'_succ,wpOps_cons];refine Gq gd (k:=fun e' h'=>Qk P Γ ((ops.toList.drop (j+1)).map (bD P n ops false)) e' h' k kp) (kp:=kp) (Array.getElem?_eq_getElem hlt) hr he hn hp (fun e' h' c' a' w' hkk hr' hx he' hn' hdf=> ?_) (fun v x e' h' c' w' hkk hr' hx he' hv=>hkp v x e' h' c' a w' hkk hr' hx he' hn rfl hv);refine wN gd m (j+1) c' h' w' e' a' (by omega) hkk hr' he' hn' (fun e2 h2 c2 a2 w2 hk2 gV hx2 iL hn2 QF=> ?_) (fun v x e2 h2 c2 a2 w2 hk2 gV hx2 iL hn2 QF hv=> ?_)
  ·exact hk e2 h2 c2 a2 w2 hk2 gV (hx.trans hr hx2) iL hn2 (QF.trans hdf)
  ·exact hkp v x e2 h2 c2 a2 w2 hk2 gV (hx.trans hr hx2) iL hn2 (QF.trans hdf) hv
def erase:bK->bK
 | .skip=> .skip
 | .region ops _=> .region ops []
 | .aQ ops _ _=> .aQ ops [] []
 | .seq a b=> .seq (erase a) (erase b)
 | .cond c a b=> .cond c (erase a) (erase b)
 | .block id b=> .block id (erase b)
 | .loop b=> .loop (erase b)
 | .exit id=> .exit id
 | .ret=> .ret
 | .bad=> .bad
def Zd(c:Cx)(h:Heap)(w:World):Exit->bS->Prop
 | .normal,.normal=>True
 | .exit i,.exit j=>i=j
 | .ret,.ret=>True
 | .panic ch,.panic v=> ∃x,ch=[{v:=x,recovered:=false}]/\VR c h w v x
 |_,_=>False
def Post(c:Cx)(h:Heap)(w:World)(Q:bS->Env->Heap->Prop)(n:Nat)(ds:List Deferred)(ex:Exit)(a':Act)(w':World):Prop:=
 ∃c' h' e' x,Q x e' h'/\bT c' h' w'/\Ext c h w c' h' w'/\ER c' h' w' e' a'.tmps/\a'.tmps.size=n/\a'.defers=ds/\Zd c' h' w' ex x
def XQ(P:Program)(n:Nat)(code:Code)(Q:bS->Env->Heap->Prop)(e:Env)(h:Heap):Prop:=
 ∀(c:Cx) (w:World) (a:Act),bT c h w->ER c h w e a.tmps->a.tmps.size=n->code.wp P (Post c h w Q n a.defers) a w
def fh:bK->Bool
 | .aQ ops ord _=>Gj ops ord
 | .seq a b| .cond _ a b=>fh a&&fh b
 | .block _ b| .loop b=>fh b
 |_=>true
structure dR(P:Program)(b:bK)(Q:bS->Env->Heap->Prop)(e:Env)(h:Heap):Prop where
 run: ∀n code,P.follows .mixedOrders=true->fh b=true->erase b=cB P n code->XQ P n (.loop code) Q e h
def XR(k:Env->Heap->Prop)(Q:bS->Env->Heap->Prop):bS->Env->Heap->Prop
 | .normal,e,h=>k e h
 |x,e,h=>Q x e h
def EO(id:Nat)(Q:bS->Env->Heap->Prop):bS->Env->Heap->Prop
 | .exit j,e,h=> @Bool.rec (fun _=>Prop) (Q (.exit j) e h) (Q .normal e h) (Nat.beq j id)
 |x,e,h=>Q x e h
def qU(c:aY)(e:Env)(h:Heap)(a b:Env->Heap->Prop):Prop:=match c with
    | .tmp t=>Env.u5 e t fun c=>match c with
      | .bool x=> @Bool.rec (fun _=>Prop) (Env.BH e t (.bool false) fun e=>b e h) (Env.BH e t (.bool true) fun e=>a e h) x
      |_=>False
    | .const c=>match c with
      | .bool x=> @Bool.rec (fun _=>Prop) (b e h) (a e h) x
      |_=>False
abbrev kB:=bK->(bS->Env->Heap->Prop)->Env->Heap->Prop
def oZ(P:Program)(Γ:bR)(Λ:kB)(code:bK):(bS->Env->Heap->Prop)->Env->Heap->Prop:=
 @bK.rec (fun _=>(bS->Env->Heap->Prop)->Env->Heap->Prop)
  (fun Q e h=>Q .normal e h)
  (fun ops fg Q e h=>Qk P Γ ops e h (fun e' h'=>Env.rD fg e' fun e''=>Q .normal e'' h') (fun v e' h'=>Q (.panic v) e' h'))
  (fun ops ord fg Q e h=>lF P Γ ops ord e h (fun e' h'=>Env.rD fg e' fun e''=>Q .normal e'' h') (fun v e' h'=>Q (.panic v) e' h'))
  (fun _ _ a b Q e h=>a (XR (b Q) Q) e h)
  (fun c _ _ a b Q e h=>qU c e h (a Q) (b Q))
  (fun id _ b Q e h=>b (EO id Q) e h)
  (fun b _ Q e h=>Λ b Q e h)
  (fun id Q e h=>Q (.exit id) e h)
  (fun Q e h=>Q .ret e h)
  (fun _ _ _=>False) code
def D9(P:Program)(code:bK):(bS->Env->Heap->Prop)->Env->Heap->Prop:=oZ P (bz P) (dR P) code
section
variable {P:Program} {Γ:bR} {n:Nat}
theorem Post.of{c:Cx}{h:Heap}{w:World}{Q:bS->Env->Heap->Prop}{ds:List Deferred}{ex:Exit}{a':Act}{w':World}{c1:Cx}{h1:Heap}{w1:World}(hr:bT c h w)(hx:Ext c h w c1 h1 w1)
  (hp:Post c1 h1 w1 Q n ds ex a' w'):Post c h w Q n ds ex a' w':=by
 obtain⟨c',h',e',x,hq,hr',hx',he',hn',hd',hex⟩:=hp;exact⟨c',h',e',x,hq,hr',hx.trans hr hx',he',hn',hd',hex⟩
theorem dX{Λ:kB}(gd:Γ.Ok P)(oT: ∀b Q e h,Λ b Q e h->dR P b Q e h)(hm:P.follows .mixedOrders=true): ∀(code:Code) (ac:bK) (Q:bS->Env->Heap->Prop) (e:Env) (h:Heap),fh ac=true->erase ac=cB P n code->oZ P Γ Λ ac Q e h->XQ P n code Q e h
 | .skip,ac,Q,e,h,ho,hc,hp=>by
   cases ac<;>simp only[erase,cB]at hc<;>try cases hc
   intro c w a hr he hn;exact wp_skip ⟨c,h,e,.normal,hp,hr,.refl,he,hn,rfl,trivial⟩
 | .region id ops false,ac,Q,e,h,ho,hc,hp=>by
   simp only[cB,cond_false]at hc;cases ac<;>simp only[erase]at hc<;>try cases hc
   intro c w a hr he hn;refine wp_region ?_;rw[List.range_eq_range'];refine wN gd ops.size 0 c h w e a (by simp) (by rw[List.drop_zero];exact hp) hr he hn (fun e' h' c' a' w' hk hr' hx he' hn' hd'=> ?_) (fun v x e' h' c' a' w' hk hr' hx he' hn' hd' hv=> ?_)
   ·rw[nF]at hk
    exact⟨c',h',_,.normal,hk,hr',hx,he'.oS _,hn',hd',trivial⟩
   ·exact⟨c',h',e',.panic v,hk,hr',hx,he',hn',hd',x,rfl,hv⟩
 | .region id ops true,ac,Q,e,h,ho,hc,hp=>by
   simp only[cB,cond_true]at hc;cases ac<;>simp only[erase]at hc<;>try cases hc
   intro c w a hr he hn;refine wM gd hm ho hp hr he hn (fun e' h' c' a' w' hk hr' hx he' hn' hd'=> ?_) (fun v x e' h' c' a' w' hk hr' hx he' hn' hd' hv=> ?_)
   ·rw[nF]at hk
    exact⟨c',h',_,.normal,hk,hr',hx,he'.oS _,hn',hd',trivial⟩
   ·exact⟨c',h',e',.panic v,hk,hr',hx,he',hn',hd',x,rfl,hv⟩
 | .seq x y,ac,Q,e,h,ho,hc,hp=>by
   cases ac<;>simp only[erase,cB,bK.seq.injEq,reduceCtorEq]at hc
   rename_i ax ay;simp only[fh,Bool.and_eq_true]at ho;intro c w a hr he hn;refine wp_seq (wp_mono (dX gd oT hm x ax _ e h ho.1 hc.1 hp c w a hr he hn) fun ex a' w' hpost=> ?_);obtain⟨c',h',e',xx,hq,hr',hx',he',hn',hd',hex⟩:=hpost;cases ex with
   |normal=>
    cases xx<;>try exact hex.elim
    simp only[Exit.then];have:=dX gd oT hm y ay Q e' h' ho.2 hc.2 hq c' w' a' hr' he' hn';rw[hd']at this;exact wp_mono this fun _ _ _ tE=>tE.of hr hx'
   |exit i=>cases xx<;>first|exact hex.elim|exact⟨c',h',e',_,hq,hr',hx',he',hn',hd',hex⟩
   |goto l=>cases xx<;>exact hex.elim
   |ret=>cases xx<;>first|exact hex.elim|exact⟨c',h',e',_,hq,hr',hx',he',hn',hd',hex⟩
   |panic ch=>cases xx<;>first|exact hex.elim|exact⟨c',h',e',_,hq,hr',hx',he',hn',hd',hex⟩
   |outgrown=>cases xx<;>exact hex.elim
 | .cond cc x y,ac,Q,e,h,ho,hc,hp=>by
   cases ac<;>simp only[erase,cB,bK.cond.injEq,reduceCtorEq]at hc
   rename_i ac ax ay;obtain⟨B6,Pw,T2⟩:=hc;simp only[fh,Bool.and_eq_true]at ho;intro c w a hr he hn;have hv:=he.ev cc;rw[<- B6]at hv;cases ac with
   |tmp t=>
    replace hp:qU (.tmp t) e h (oZ P Γ Λ ax Q) (oZ P Γ Λ ay Q):=hp
    simp only[qU,iT]at hp;have hev:(aY.tmp t).ev e=Env.get e t:=rfl;rw[hev]at hv;split at hp
    ·rename_i b hb
     rw[hb]at hv;have H7:=hv.dm;refine wp_cond H7 ?_
     have hput: ∀b',b'=b->ER c h w (Env.put e t (.bool b')) a.tmps:=by
      rintro b' rfl u;rw[qm];by_cases hu:u=t
      ·subst hu
       rw[if_pos rfl];have:=he u;rw[hb]at this;exact this
      ·rw[if_neg hu];exact he u
     cases b<;>simp only[ql]at hp
     ·exact dX gd oT hm y ay Q _ h ho.2 T2 hp c w a hr (hput _ rfl) hn
     ·exact dX gd oT hm x ax Q _ h ho.1 Pw hp c w a hr (hput _ rfl) hn
    ·exact hp.elim
   |const v=>
    replace hp:qU (.const v) e h (oZ P Γ Λ ax Q) (oZ P Γ Λ ay Q):=hp
    simp only[qU]at hp;have hev:(aY.const v).ev e=v:=rfl;rw[hev]at hv;split at hp
    ·have H7:=hv.dm
     refine wp_cond H7 ?_;rename_i b;cases b
     ·exact dX gd oT hm y ay Q _ h ho.2 T2 hp c w a hr he hn
     ·exact dX gd oT hm x ax Q _ h ho.1 Pw hp c w a hr he hn
    ·exact hp.elim
 | .block id b,ac,Q,e,h,ho,hc,hp=>by
   cases ac<;>simp only[erase,cB,bK.block.injEq,reduceCtorEq]at hc
   rename_i XS ab;obtain⟨rfl,hc⟩:=hc;intro c w a hr he hn;refine wp_block (wp_mono (dX gd oT hm b ab _ e h ho hc hp c w a hr he hn) fun ex a' w' hpost=> ?_);obtain⟨c',h',e',xx,hq,hr',hx',he',hn',hd',hex⟩:=hpost;cases ex with
   |normal=>cases xx<;>first|exact hex.elim|exact⟨c',h',e',_,hq,hr',hx',he',hn',hd',hex⟩
   |exit i=>
    cases xx<;>try exact hex.elim
    rename_i j;have hij:i=j:=hex;subst hij;simp only[Exit.inBlock];rcases bO i XS with⟨hb,hb'⟩|⟨hb,hb'⟩
    ·rw[if_pos hb']
     simp only[EO,hb]at hq;exact⟨c',h',e',.normal,hq,hr',hx',he',hn',hd',trivial⟩
    ·rw[if_neg hb']
     simp only[EO,hb]at hq;exact⟨c',h',e',.exit i,hq,hr',hx',he',hn',hd',rfl⟩
   |goto l=>cases xx<;>exact hex.elim
   |ret=>cases xx<;>first|exact hex.elim|exact⟨c',h',e',_,hq,hr',hx',he',hn',hd',hex⟩
   |panic ch=>cases xx<;>first|exact hex.elim|exact⟨c',h',e',_,hq,hr',hx',he',hn',hd',hex⟩
   |outgrown=>cases xx<;>exact hex.elim
 | .loop b,ac,Q,e,h,ho,hc,hp=>by
   cases ac<;>simp only[erase,cB,bK.loop.injEq,reduceCtorEq]at hc
   exact(oT _ _ _ _ hp).run n b hm ho hc
 | .exit id,ac,Q,e,h,ho,hc,hp=>by
   cases ac<;>simp only[erase,cB,bK.exit.injEq,reduceCtorEq]at hc
   subst hc;intro c w a hr he hn;exact wp_exit ⟨c,h,e,.exit _,hp,hr,.refl,he,hn,rfl,rfl⟩
 | .ret,ac,Q,e,h,ho,hc,hp=>by
   cases ac<;>simp only[erase,cB,reduceCtorEq]at hc
   intro c w a hr he hn;exact wp_ret ⟨c,h,e,.ret,hp,hr,.refl,he,hn,rfl,trivial⟩
 | .rangeFunc _ _ _ _,ac,Q,e,h,ho,hc,hp=>by
   cases ac<;>simp only[erase,cB,reduceCtorEq]at hc
   exact hp.elim
 | .scope _,ac,Q,e,h,ho,hc,hp=>by
   cases ac<;>simp only[erase,cB,reduceCtorEq]at hc
   exact hp.elim
 | .label _,ac,Q,e,h,ho,hc,hp=>by
   cases ac<;>simp only[erase,cB,reduceCtorEq]at hc
   exact hp.elim
 | .goto _,ac,Q,e,h,ho,hc,hp=>by
   cases ac<;>simp only[erase,cB,reduceCtorEq]at hc
   exact hp.elim
 | .refuse _,ac,Q,e,h,ho,hc,hp=>by
   cases ac<;>simp only[erase,cB,reduceCtorEq]at hc
   exact hp.elim
theorem iN(hm:P.follows .mixedOrders=true)(code:Code)(ac:bK)(Q:bS->Env->Heap->Prop)(e:Env)(h:Heap)(ho:fh ac=true)(hc:erase ac=cB P n code)(hp:D9 P ac Q e h):XQ P n code Q e h:=
 dX (Γ:=bz P) (Λ:=dR P) r9 (fun _ _ _ _ h=>h) hm code ac Q e h ho hc hp
end
end
end Ab
