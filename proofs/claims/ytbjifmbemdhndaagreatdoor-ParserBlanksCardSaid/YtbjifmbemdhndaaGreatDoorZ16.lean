/- Parts of the proof of PParserBlanks, one behind the other, with short names. -/
import Derived.Test.YtbjifmbemdhndaaGreatDoorZ15
set_option linter.unusedVariables false
set_option linter.unusedSimpArgs false
namespace Ab
open Go
section
theorem Bo{n:Nat}{ops:Array Oper}{pre:Bool}{P:Program}{o:Oper}{c:Cx}{h:Heap}{w:World}{e:Env}{a:Act}{run skip:Env->Prop}(he:ER c h w e a.tmps)(hn:a.tmps.size=n)
  (hp:fU e (bP P n ops pre o).guard run skip)(hrun: ∀e,ER c h w e a.tmps->run e->Region.wanted o (yielded ops a.tmps)=true->(∀ d,o.dst=some d->d<n)->(bP P n ops pre o).dst=o.dst->(bP P n ops pre o).op=l9 P o.op->False)
  (lJ: ∀e,ER c h w e a.tmps->skip e->Region.wanted o (yielded ops a.tmps)=false->(∀ d,o.dst=some d->d<n)->(bP P n ops pre o).dst=o.dst->False)
  (oI:run e->(bP P n ops pre o).op= .bad->False):False:=by
 unfold bP at hp hrun lJ oI;dsimp only at hp hrun lJ oI;cases hd:oU n o
 ·rw[hd]at hp oI
  simp only[cond_false,fU]at hp oI;exact oI hp (by first|rfl|trivial)
 ·have hlt: ∀d,o.dst=some d->d<n:=fun d mC=>by
   unfold oU at hd;rw[mC]at hd;exact Nat.lt_of_succ_le (by simpa[Nat.blt]using hd)
  rw[hd]at hp hrun lJ oI;simp only[cond_true]at hp hrun lJ oI;cases hg:o.guard with
  |none=>
   rw[hg]at hp hrun;simp only[fU]at hp;exact hrun e he hp (by simp[Region.wanted,hg]) hlt (by first|rfl|trivial) (by first|rfl|trivial)
  |some gw=>
   obtain⟨j,want⟩:=gw;rw[hg]at hp hrun lJ oI;dsimp only at hp hrun lJ oI;cases ht:(ops[j]?).bind (·.dst)with
   |none=>
    rw[ht]at hp oI;simp only[fU]at hp oI;exact oI hp (by first|rfl|trivial)
   |some t=>
    rw[ht]at hp hrun lJ oI;dsimp only at hp hrun lJ oI;cases hb:Nat.blt t n
    ·rw[hb]at hp oI
     simp only[cond_false,fU]at hp oI;exact oI hp (by first|rfl|trivial)
    ·have TH:t<n:=by
      exact Nat.lt_of_succ_le (by simpa[Nat.blt]using hb)
     rw[hb]at hp hrun lJ oI;simp only[cond_true,fU,iK]at hp hrun lJ;have hv:=he t
     have gJ:a.tmps[t]? =some (a.tmps.getD t undef):=by
      rw[Array.getD_eq_getD_getElem?];have:t<a.tmps.size:=by rw[hn];exact TH
      simp[this]
     split at hp
     ·rename_i x hx
      rw[hx]at hv;have hv:=hv.dG
      have hy:yielded ops a.tmps j=some x:=by
       unfold yielded;rw[ht,Option.bind_some,gJ,hv]
      have hput: ∀b,b=x->ER c h w (Env.put e t (.bool b)) a.tmps:=by
       rintro b rfl u;rw[p6];by_cases hu:u=t
       ·subst hu;rw[if_pos rfl,hv];exact .bool
       ·rw[if_neg hu];exact he u
      have hw:Region.wanted o (yielded ops a.tmps)=(x==want):=by
       simp[Region.wanted,hg,hy]
      cases x<;>cases want<;>simp only[p5]at hp
      ·exact hrun _ (hput _ rfl) hp (by rw[hw];rfl) hlt (by first|rfl|trivial) (by first|rfl|trivial)
      ·exact lJ _ (hput _ rfl) hp (by rw[hw];rfl) hlt (by first|rfl|trivial)
      ·exact lJ _ (hput _ rfl) hp (by rw[hw];rfl) hlt (by first|rfl|trivial)
      ·exact hrun _ (hput _ rfl) hp (by rw[hw];rfl) hlt (by first|rfl|trivial) (by first|rfl|trivial)
     ·rename_i l hx
      rw[hx]at hv;obtain⟨cs,hcs,_⟩:=hv.mj
      have hy:yielded ops a.tmps j=none:=by
       unfold yielded;rw[ht,Option.bind_some,gJ,hcs]
      exact lJ _ he hp (by simp[Region.wanted,hg,hy]) hlt (by first|rfl|trivial)
     ·exact hp.elim
theorem Fj{P:Program}{Γ:bZ}(gp:Γ.Ok P){n:Nat}{ops:Array Oper}{pre:Bool}{Q:Exit->Act->World->Prop}{i:Nat}{o:Oper}(hi:ops[i]? =some o){c:Cx}{h:Heap}{w:World}{e:Env}{a:Act}{K:Act->World->Prop}
  (hr:cF c h w)(he:ER c h w e a.tmps)(hn:a.tmps.size=n){k:Env->Heap->Prop}{kp:SV->Env->Heap->Prop}
  (hp:fU e (bP P n ops pre o).guard
   (fun e=>bR P Γ (bP P n ops pre o).op e h (fun v h'=>nh e (bP P n ops pre o).dst v fun e'=>k e' h') (fun v h'=>kp v e h'))
   (fun e=>nh e (bP P n ops pre o).dst (.bn []) fun e'=>k e' h))
  (hk: ∀e' h' c' a' w',k e' h'->cF c' h' w'->Ext c h w c' h' w'->ER c' h' w' e' a'.tmps->a'.tmps.size=n->a'.defers=a.defers->K a' w')
  (hkp: ∀v x e' h' c' w',kp v e' h'->cF c' h' w'->Ext c h w c' h' w'->ER c' h' w' e' a.tmps->VR c' h' w' v x->Q (.panic [{v:=x,recovered:=false}]) a w'):
  wpOp P ops Q i K a w:=by
 refine Classical.byContradiction fun hneg=>Bo he hn hp (fun e he hp hw hlt eN hop=>hneg ?_) (fun e he hp hw hlt eN=>hneg ?_) (fun hp hb=>by rw[hb]at hp;exact hp)
 ·unfold wpOp
  rw[hi];dsimp only;rw[if_pos hw];rw[hop,eN]at hp;refine .inl (LB gp hr he hp (fun v x h' c' w' hkk hr' hx hv=> ?_) (fun v x h' c' w' hkk hr' hx hv=>hkp v x e h' c' w' hkk hr' hx (he.mono hr hx) hv));rw[gH]at hkk;exact hk _ h' c' _ w' hkk hr' hx ((he.mono hr hx).put (fun t ht=>by rw[hn];exact hlt t ht) hv) (by rw[kA];exact hn) (put_defers _ _ _)
 ·unfold wpOp
  rw[hi];dsimp only;rw[if_neg (by rw[hw];decide)];rw[eN,gH]at hp;exact hk _ h c _ w hp hr .refl (he.put (fun t ht=>by rw[hn];exact hlt t ht) (.pure (.bn _ _ rfl fun i v x hv=>by simp at hv))) (by rw[kA];exact hn) (put_defers _ _ _)
theorem wg{P:Program}{Γ:bZ}(gp:Γ.Ok P){n:Nat}{ops:Array Oper}{Q:Exit->Act->World->Prop}{k:Env->Heap->Prop}{kp:SV->Env->Heap->Prop}:
  ∀(m j:Nat) (c:Cx) (h:Heap) (w:World) (e:Env) (a:Act),j+m=ops.size->M8 P Γ ((ops.toList.drop j).map (bP P n ops false)) e h k kp->cF c h w->ER c h w e a.tmps->a.tmps.size=n->
  (∀ e' h' c' a' w',k e' h'->cF c' h' w'->Ext c h w c' h' w'->ER c' h' w' e' a'.tmps->a'.tmps.size=n->a'.defers=a.defers->Q .normal a' w')->
  (∀ v x e' h' c' a' w',kp v e' h'->cF c' h' w'->Ext c h w c' h' w'->ER c' h' w' e' a'.tmps->a'.tmps.size=n->a'.defers=a.defers->VR c' h' w' v x->Q (.panic [{v:=x,recovered:=false}]) a' w')->
  wpOps P ops Q (List.range' j m) a w
 |0,j,c,h,w,e,a,hj,hp,hr,he,hn,hk,hkp=>by
  have:ops.toList.drop j=[]:=List.drop_eq_nil_iff.2 (by simp;omega);rw[this]at hp;exact hk e h c a w hp hr .refl he hn rfl
 |m+1,j,c,h,w,e,a,hj,hp,hr,he,hn,hk,hkp=>by
  have hlt:j<ops.size:=by omega
  have hd:ops.toList.drop j=ops[j]::ops.toList.drop (j+1):=by
   rw[List.drop_eq_getElem_cons (by simpa using hlt)];simp
  rw[hd,List.map_cons]at hp;rw[List.range'_succ,wpOps_cons];refine Fj gp (k:=fun e' h'=>M8 P Γ ((ops.toList.drop (j+1)).map (bP P n ops false)) e' h' k kp) (kp:=kp) (Array.getElem?_eq_getElem hlt) hr he hn hp (fun e' h' c' a' w' hkk hr' hx he' hn' hdf=> ?_) (fun v x e' h' c' w' hkk hr' hx he' hv=>hkp v x e' h' c' a w' hkk hr' hx he' hn rfl hv);refine wg gp m (j+1) c' h' w' e' a' (by omega) hkk hr' he' hn' (fun e2 h2 c2 a2 w2 hk2 iO hx2 ku hn2 Nw=> ?_) (fun v x e2 h2 c2 a2 w2 hk2 iO hx2 ku hn2 Nw hv=> ?_)
  ·exact hk e2 h2 c2 a2 w2 hk2 iO (hx.trans hr hx2) ku hn2 (Nw.trans hdf)
  ·exact hkp v x e2 h2 c2 a2 w2 hk2 iO (hx.trans hr hx2) ku hn2 (Nw.trans hdf) hv
def erase:bW->bW
 | .skip=> .skip
 | .region ops _=> .region ops []
 | .bq ops _ _=> .bq ops [] []
 | .seq a b=> .seq (erase a) (erase b)
 | .cond c a b=> .cond c (erase a) (erase b)
 | .block id b=> .block id (erase b)
 | .loop b=> .loop (erase b)
 | .exit id=> .exit id
 | .ret=> .ret
 | .bad=> .bad
def VN(c:Cx)(h:Heap)(w:World):Exit->cQ->Prop
 | .normal,.normal=>True
 | .exit i,.exit j=>i=j
 | .ret,.ret=>True
 | .panic ch,.panic v=> ∃x,ch=[{v:=x,recovered:=false}]/\VR c h w v x
 |_,_=>False
def Post(c:Cx)(h:Heap)(w:World)(Q:cQ->Env->Heap->Prop)(n:Nat)(ds:List Deferred)(ex:Exit)(a':Act)(w':World):Prop:=
 ∃c' h' e' x,Q x e' h'/\cF c' h' w'/\Ext c h w c' h' w'/\ER c' h' w' e' a'.tmps/\a'.tmps.size=n/\a'.defers=ds/\VN c' h' w' ex x
def T2(P:Program)(n:Nat)(code:Code)(Q:cQ->Env->Heap->Prop)(e:Env)(h:Heap):Prop:=
 ∀(c:Cx) (w:World) (a:Act),cF c h w->ER c h w e a.tmps->a.tmps.size=n->code.wp P (Post c h w Q n a.defers) a w
def fA:bW->Bool
 | .bq ops ord _=>Fb ops ord
 | .seq a b| .cond _ a b=>fA a&&fA b
 | .block _ b| .loop b=>fA b
 |_=>true
structure fR(P:Program)(b:bW)(Q:cQ->Env->Heap->Prop)(e:Env)(h:Heap):Prop where
 run: ∀n code,P.follows .mixedOrders=true->fA b=true->erase b=cR P n code->T2 P n (.loop code) Q e h
def T3(k:Env->Heap->Prop)(Q:cQ->Env->Heap->Prop):cQ->Env->Heap->Prop
 | .normal,e,h=>k e h
 |x,e,h=>Q x e h
def Dk(id:Nat)(Q:cQ->Env->Heap->Prop):cQ->Env->Heap->Prop
 | .exit j,e,h=> @Bool.rec (fun _=>Prop) (Q (.exit j) e h) (Q .normal e h) (Nat.beq j id)
 |x,e,h=>Q x e h
def qD(c:bw)(e:Env)(h:Heap)(a b:Env->Heap->Prop):Prop:=match c with
    | .tmp t=>Env.uM e t fun c=>match c with
      | .bool x=> @Bool.rec (fun _=>Prop) (Env.At e t (.bool false) fun e=>b e h) (Env.At e t (.bool true) fun e=>a e h) x
      |_=>False
    | .const c=>match c with
      | .bool x=> @Bool.rec (fun _=>Prop) (b e h) (a e h) x
      |_=>False
abbrev kD:=bW->(cQ->Env->Heap->Prop)->Env->Heap->Prop
def oJ(P:Program)(Γ:bZ)(Λ:kD)(code:bW):(cQ->Env->Heap->Prop)->Env->Heap->Prop:=
 @bW.rec (fun _=>(cQ->Env->Heap->Prop)->Env->Heap->Prop)
  (fun Q e h=>Q .normal e h)
  (fun ops fg Q e h=>M8 P Γ ops e h (fun e' h'=>Env.qQ fg e' fun e''=>Q .normal e'' h') (fun v e' h'=>Q (.panic v) e' h'))
  (fun ops ord fg Q e h=>lD P Γ ops ord e h (fun e' h'=>Env.qQ fg e' fun e''=>Q .normal e'' h') (fun v e' h'=>Q (.panic v) e' h'))
  (fun _ _ a b Q e h=>a (T3 (b Q) Q) e h)
  (fun c _ _ a b Q e h=>qD c e h (a Q) (b Q))
  (fun id _ b Q e h=>b (Dk id Q) e h)
  (fun b _ Q e h=>Λ b Q e h)
  (fun id Q e h=>Q (.exit id) e h)
  (fun Q e h=>Q .ret e h)
  (fun _ _ _=>False) code
def Gk(P:Program)(code:bW):(cQ->Env->Heap->Prop)->Env->Heap->Prop:=oJ P (bK P) (fR P) code
section
variable {P:Program} {Γ:bZ} {n:Nat}
theorem Post.of{c:Cx}{h:Heap}{w:World}{Q:cQ->Env->Heap->Prop}{ds:List Deferred}{ex:Exit}{a':Act}{w':World}{c1:Cx}{h1:Heap}{w1:World}(hr:cF c h w)(hx:Ext c h w c1 h1 w1)
  (hp:Post c1 h1 w1 Q n ds ex a' w'):Post c h w Q n ds ex a' w':=by
 obtain⟨c',h',e',x,hq,hr',hx',he',hn',hd',hex⟩:=hp;exact⟨c',h',e',x,hq,hr',hx.trans hr hx',he',hn',hd',hex⟩
theorem eB{Λ:kD}(gp:Γ.Ok P)(nN: ∀b Q e h,Λ b Q e h->fR P b Q e h)(hm:P.follows .mixedOrders=true): ∀(code:Code) (ac:bW) (Q:cQ->Env->Heap->Prop) (e:Env) (h:Heap),fA ac=true->erase ac=cR P n code->oJ P Γ Λ ac Q e h->T2 P n code Q e h
 | .skip,ac,Q,e,h,ho,hc,hp=>by
   cases ac<;>simp only[erase,cR]at hc<;>try cases hc
   intro c w a hr he hn;exact wp_skip ⟨c,h,e,.normal,hp,hr,.refl,he,hn,rfl,trivial⟩
 | .region id ops false,ac,Q,e,h,ho,hc,hp=>by
   simp only[cR,cond_false]at hc;cases ac<;>simp only[erase]at hc<;>try cases hc
   intro c w a hr he hn;refine wp_region ?_;rw[List.range_eq_range'];refine wg gp ops.size 0 c h w e a (by simp) (by rw[List.drop_zero];exact hp) hr he hn (fun e' h' c' a' w' hk hr' hx he' hn' hd'=> ?_) (fun v x e' h' c' a' w' hk hr' hx he' hn' hd' hv=> ?_)
   ·rw[ni]at hk
    exact⟨c',h',_,.normal,hk,hr',hx,he'.ot _,hn',hd',trivial⟩
   ·exact⟨c',h',e',.panic v,hk,hr',hx,he',hn',hd',x,rfl,hv⟩
 | .region id ops true,ac,Q,e,h,ho,hc,hp=>by
   simp only[cR,cond_true]at hc;cases ac<;>simp only[erase]at hc<;>try cases hc
   intro c w a hr he hn;refine we gp hm ho hp hr he hn (fun e' h' c' a' w' hk hr' hx he' hn' hd'=> ?_) (fun v x h' c' a' w' hk hr' hx hn' hd' hv=> ?_)
   ·rw[ni]at hk
    exact⟨c',h',_,.normal,hk,hr',hx,he'.ot _,hn',hd',trivial⟩
   ·exact⟨c',h',[],.panic v,hk,hr',hx,fun t=> .undef,hn',hd',x,rfl,hv⟩
 | .seq x y,ac,Q,e,h,ho,hc,hp=>by
   cases ac<;>simp only[erase,cR,bW.seq.injEq,reduceCtorEq]at hc
   rename_i ax ay;simp only[fA,Bool.and_eq_true]at ho;intro c w a hr he hn;refine wp_seq (wp_mono (eB gp nN hm x ax _ e h ho.1 hc.1 hp c w a hr he hn) fun ex a' w' hpost=> ?_);obtain⟨c',h',e',xx,hq,hr',hx',he',hn',hd',hex⟩:=hpost;cases ex with
   |normal=>
    cases xx<;>try exact hex.elim
    simp only[Exit.then];have:=eB gp nN hm y ay Q e' h' ho.2 hc.2 hq c' w' a' hr' he' hn';rw[hd']at this;exact wp_mono this fun _ _ _ uN=>uN.of hr hx'
   |exit i=>cases xx<;>first|exact hex.elim|exact⟨c',h',e',_,hq,hr',hx',he',hn',hd',hex⟩
   |goto l=>cases xx<;>exact hex.elim
   |ret=>cases xx<;>first|exact hex.elim|exact⟨c',h',e',_,hq,hr',hx',he',hn',hd',hex⟩
   |panic ch=>cases xx<;>first|exact hex.elim|exact⟨c',h',e',_,hq,hr',hx',he',hn',hd',hex⟩
   |outgrown=>cases xx<;>exact hex.elim
 | .cond cc x y,ac,Q,e,h,ho,hc,hp=>by
   cases ac<;>simp only[erase,cR,bW.cond.injEq,reduceCtorEq]at hc
   rename_i ac ax ay;obtain⟨CX,LM,Q6⟩:=hc;simp only[fA,Bool.and_eq_true]at ho;intro c w a hr he hn;have hv:=he.ev cc;rw[<- CX]at hv;cases ac with
   |tmp t=>
    replace hp:qD (.tmp t) e h (oJ P Γ Λ ax Q) (oJ P Γ Λ ay Q):=hp
    simp only[qD,iK]at hp;have hev:(bw.tmp t).ev e=Env.get e t:=rfl;rw[hev]at hv;split at hp
    ·rename_i b hb
     rw[hb]at hv;have Gf:=hv.dG;refine wp_cond Gf ?_
     have hput: ∀b',b'=b->ER c h w (Env.put e t (.bool b')) a.tmps:=by
      rintro b' rfl u;rw[p6];by_cases hu:u=t
      ·subst hu
       rw[if_pos rfl];have:=he u;rw[hb]at this;exact this
      ·rw[if_neg hu];exact he u
     cases b<;>simp only[p5]at hp
     ·exact eB gp nN hm y ay Q _ h ho.2 Q6 hp c w a hr (hput _ rfl) hn
     ·exact eB gp nN hm x ax Q _ h ho.1 LM hp c w a hr (hput _ rfl) hn
    ·exact hp.elim
   |const v=>
    replace hp:qD (.const v) e h (oJ P Γ Λ ax Q) (oJ P Γ Λ ay Q):=hp
    simp only[qD]at hp;have hev:(bw.const v).ev e=v:=rfl;rw[hev]at hv;split at hp
    ·have Gf:=hv.dG
     refine wp_cond Gf ?_;rename_i b;cases b
     ·exact eB gp nN hm y ay Q _ h ho.2 Q6 hp c w a hr he hn
     ·exact eB gp nN hm x ax Q _ h ho.1 LM hp c w a hr he hn
    ·exact hp.elim
 | .block id b,ac,Q,e,h,ho,hc,hp=>by
   cases ac<;>simp only[erase,cR,bW.block.injEq,reduceCtorEq]at hc
   rename_i T4 ab;obtain⟨rfl,hc⟩:=hc;intro c w a hr he hn;refine wp_block (wp_mono (eB gp nN hm b ab _ e h ho hc hp c w a hr he hn) fun ex a' w' hpost=> ?_);obtain⟨c',h',e',xx,hq,hr',hx',he',hn',hd',hex⟩:=hpost;cases ex with
   |normal=>cases xx<;>first|exact hex.elim|exact⟨c',h',e',_,hq,hr',hx',he',hn',hd',hex⟩
   |exit i=>
    cases xx<;>try exact hex.elim
    rename_i j;have hij:i=j:=hex;subst hij;simp only[Exit.inBlock];rcases bX i T4 with⟨hb,hb'⟩|⟨hb,hb'⟩
    ·rw[if_pos hb']
     simp only[Dk,hb]at hq;exact⟨c',h',e',.normal,hq,hr',hx',he',hn',hd',trivial⟩
    ·rw[if_neg hb']
     simp only[Dk,hb]at hq;exact⟨c',h',e',.exit i,hq,hr',hx',he',hn',hd',rfl⟩
   |goto l=>cases xx<;>exact hex.elim
   |ret=>cases xx<;>first|exact hex.elim|exact⟨c',h',e',_,hq,hr',hx',he',hn',hd',hex⟩
   |panic ch=>cases xx<;>first|exact hex.elim|exact⟨c',h',e',_,hq,hr',hx',he',hn',hd',hex⟩
   |outgrown=>cases xx<;>exact hex.elim
 | .loop b,ac,Q,e,h,ho,hc,hp=>by
   cases ac<;>simp only[erase,cR,bW.loop.injEq,reduceCtorEq]at hc
   exact(nN _ _ _ _ hp).run n b hm ho hc
 | .exit id,ac,Q,e,h,ho,hc,hp=>by
   cases ac<;>simp only[erase,cR,bW.exit.injEq,reduceCtorEq]at hc
   subst hc;intro c w a hr he hn;exact wp_exit ⟨c,h,e,.exit _,hp,hr,.refl,he,hn,rfl,rfl⟩
 | .ret,ac,Q,e,h,ho,hc,hp=>by
   cases ac<;>simp only[erase,cR,reduceCtorEq]at hc
   intro c w a hr he hn;exact wp_ret ⟨c,h,e,.ret,hp,hr,.refl,he,hn,rfl,trivial⟩
 | .rangeFunc _ _ _ _,ac,Q,e,h,ho,hc,hp=>by
   cases ac<;>simp only[erase,cR,reduceCtorEq]at hc
   exact hp.elim
 | .scope _,ac,Q,e,h,ho,hc,hp=>by
   cases ac<;>simp only[erase,cR,reduceCtorEq]at hc
   exact hp.elim
 | .label _,ac,Q,e,h,ho,hc,hp=>by
   cases ac<;>simp only[erase,cR,reduceCtorEq]at hc
   exact hp.elim
 | .goto _,ac,Q,e,h,ho,hc,hp=>by
   cases ac<;>simp only[erase,cR,reduceCtorEq]at hc
   exact hp.elim
 | .refuse _,ac,Q,e,h,ho,hc,hp=>by
   cases ac<;>simp only[erase,cR,reduceCtorEq]at hc
   exact hp.elim
theorem lu(hm:P.follows .mixedOrders=true)(code:Code)(ac:bW)(Q:cQ->Env->Heap->Prop)(e:Env)(h:Heap)(ho:fA ac=true)(hc:erase ac=cR P n code)(hp:Gk P ac Q e h):T2 P n code Q e h:=
 eB (Γ:=bK P) (Λ:=fR P) rL (fun _ _ _ _ h=>h) hm code ac Q e h ho hc hp
end
end
end Ab
