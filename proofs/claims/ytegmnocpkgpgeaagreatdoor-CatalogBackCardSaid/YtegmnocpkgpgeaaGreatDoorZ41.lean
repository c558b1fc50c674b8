/- Parts of the proof of PCatalogBack, one behind the other, with short names. -/
import Derived.Test.YtegmnocpkgpgeaaGreatDoorZ40
import Derived.Recover
set_option linter.unusedVariables false
set_option linter.unusedSimpArgs false
namespace Ab
open Go
section
section
variable {P:Program} {Γ:bR} {c:Cx} {h:Heap} {w:World} {n:Nat}
def DR(c:Cx)(h:Heap)(w:World)(l:List SV)(ds:List Deferred):Prop:=
 ds.length=l.length/\ ∀(i:Nat) (v:SV) (d:Deferred),l[i]? =some v->ds[i]? =some d-> ∃fn cap,d.target= .fn fn cap/\VR c h w v (.func fn d.args cap)
theorem DR.mono{c':Cx}{h':Heap}{w':World}(hr:bT c h w)(hx:Ext c h w c' h' w'){l:List SV}{ds:List Deferred}(hd:DR c h w l ds):DR c' h' w' l ds:=
 ⟨hd.1,fun i v d hv hd'=>let⟨fn,cap,h1,h2⟩:=hd.2 i v d hv hd';⟨fn,cap,h1,h2.mono hr hx⟩⟩
theorem DR.nil:DR c h w [] []:=⟨rfl,fun i v d hv=>by simp at hv⟩
theorem DR.cons{l:List SV}{ds:List Deferred}(hd:DR c h w l ds){v:SV}{d:Deferred}{fn:Fn}{cap:Array Value}(h1:d.target= .fn fn cap)(h2:VR c h w v (.func fn d.args cap)):DR c h w (v::l) (d::ds):=
 ⟨by simp[hd.1],fun i u e hu he=>by
  cases i with
  |zero=>simp at hu he;subst hu;subst he;exact⟨fn,cap,h1,h2⟩
  |succ i=>simp at hu he;exact hd.2 i u e hu he⟩
def DF(c:Cx)(h:Heap)(w:World)(Q:bS->Env->Heap->List SV->Prop)(n:Nat)(ex:Exit)(a':Act)(w':World):Prop:=
 ∃c' h' e' x ds,Q x e' h' ds/\bT c' h' w'/\Ext c h w c' h' w'/\ER c' h' w' e' a'.tmps/\a'.tmps.size=n/\DR c' h' w' ds a'.defers/\Zd c' h' w' ex x
theorem DF.of{Q:bS->Env->Heap->List SV->Prop}{ex:Exit}{a':Act}{w':World}{c1:Cx}{h1:Heap}{w1:World}(hr:bT c h w)(hx:Ext c h w c1 h1 w1)(hp:DF c1 h1 w1 Q n ex a' w'):DF c h w Q n ex a' w':=by
 obtain⟨c',h',e',x,ds,hq,hr',hx',rest⟩:=hp;exact⟨c',h',e',x,ds,hq,hr',hx.trans hr hx',rest⟩
end
noncomputable section
def I5(P:Program)(Γ:bR)(l:List aA):Env->Heap->List SV->(Env->Heap->List SV->Prop)->(SV->Env->Heap->List SV->Prop)->Prop:=
 @List.rec aA (fun _=>Env->Heap->List SV->(Env->Heap->List SV->Prop)->(SV->Env->Heap->List SV->Prop)->Prop) (fun e h ds k _=>k e h ds)
  (fun o _ ih e h ds k kp=>match o.op,o.guard with
   | .JA f args,none=>f.fe e fun f=>match f with
     | .func fn first cap=>Ao e args fun a=>nE e o.dst .undef fun e'=>ih e' h (.func fn (first++a) cap::ds) k kp
     |_=>False
   |op,g=>fK e g
    (fun e=>bF P Γ op e h (fun v h'=>nE e o.dst v fun e'=>ih e' h' ds k kp) (fun v h'=>kp v e h' ds))
    (fun e=>nE e o.dst (.bn []) fun e'=>ih e' h ds k kp)) l
def Bl(id:Nat)(Q:bS->Env->Heap->List SV->Prop):bS->Env->Heap->List SV->Prop
 | .exit j,e,h,ds=> @Bool.rec (fun _=>Prop) (Q (.exit j) e h ds) (Q .normal e h ds) (Nat.beq j id)
 |x,e,h,ds=>Q x e h ds
def VM(k:Env->Heap->List SV->Prop)(Q:bS->Env->Heap->List SV->Prop):bS->Env->Heap->List SV->Prop
 | .normal,e,h,ds=>k e h ds
 |x,e,h,ds=>Q x e h ds
def DG(P:Program)(Γ:bR)(Λ:kB)(code:bK):(bS->Env->Heap->List SV->Prop)->Env->Heap->List SV->Prop:=
 @bK.rec (fun _=>(bS->Env->Heap->List SV->Prop)->Env->Heap->List SV->Prop)
  (fun Q e h ds=>Q .normal e h ds)
  (fun ops fg Q e h ds=>I5 P Γ ops e h ds (fun e' h' ds'=>Env.rD fg e' fun e''=>Q .normal e'' h' ds') (fun v e' h' ds'=>Q (.panic v) e' h' ds'))
  (fun ops ord fg Q e h ds=>lF P Γ ops ord e h (fun e' h'=>Env.rD fg e' fun e''=>Q .normal e'' h' ds) (fun v e' h'=>Q (.panic v) e' h' ds))
  (fun _ _ a b Q e h ds=>a (VM (b Q) Q) e h ds)
  (fun c _ _ a b Q e h ds=>qU c e h (fun e h=>a Q e h ds) (fun e h=>b Q e h ds))
  (fun id _ b Q e h ds=>b (Bl id Q) e h ds)
  (fun b _ Q e h ds=>Λ b (fun x e h=>Q x e h ds) e h)
  (fun id Q e h ds=>Q (.exit id) e h ds)
  (fun Q e h ds=>Q .ret e h ds)
  (fun _ _ _ _=>False) code
abbrev Fw:=FuncId->List SV->Option SV->Heap->(Option SV->Heap->Prop)->Prop
def LB(P:Program)(Δ:Fw)(m:Option SV)(h:Heap)(k:Option SV->Heap->Prop):SV->Prop
 | .func (.func f) a cap=>cY (eS P f) (Δ f (a++cap) m h k)
 |_=>False
def vG(P:Program)(Δ:Fw)(rs:List RV)(R:bu->Heap->Prop)(l:List SV):Option SV->Env->Heap->Prop:=
 @List.rec SV (fun _=>Option SV->Env->Heap->Prop)
  (fun m e h=>match m with
   |none=>tS rs e h fun vs=>match vs with
    | [v]=>R (.ret v) h
    |vs=>R (.ret (.bn vs)) h
   |some v=>R (.eY v) h)
  (fun d _ ih m e h=>LB P Δ m h (fun m' h'=>ih m' e h') d) l
def SQ(P:Program)(Δ:Fw)(rs:List RV)(R:bu->Heap->Prop):bS->Env->Heap->List SV->Prop
 | .normal,e,h,ds| .ret,e,h,ds=>vG P Δ rs R ds none e h
 | .panic v,e,h,ds=>vG P Δ rs R ds (some v) e h
 | .exit _,_,_,_=>False
end
def MR(c:Cx)(h:Heap)(w:World):Option SV->FrameMode->Prop
 |none,.returning=>True
 |some v,u=> ∃x,u= .panicking [{v:=x,recovered:=false}]/\VR c h w v x
 |_,_=>False
theorem MR.mono{c c':Cx}{h h':Heap}{w w':World}(hr:bT c h w)(hx:Ext c h w c' h' w'){m:Option SV}{u:FrameMode}(hm:MR c h w m u):MR c' h' w' m u:=by
 cases m with
 |none=>cases u<;>first|exact trivial|exact hm.elim
 |some v=>obtain⟨x,h1,h2⟩:=hm;exact⟨x,h1,h2.mono hr hx⟩
structure Fx(P:Program)(f:FuncId)(args:List SV)(m:Option SV)(h:Heap)(K:Option SV->Heap->Prop):Prop where
 calls: ∀(c:Cx) (w:World) (xs:Array Value) (u:FrameMode),bT c h w->xs.size=args.length->(∀ (i:Nat) (v:SV) (x:Value),args[i]? =some v->xs[i]? =some x->VR c h w v x)->MR c h w m u->
  CallsD P f xs u w fun e u' w'=>(∃ x,e= .returned x)/\ ∃c' h' m',K m' h'/\bT c' h' w'/\Ext c h w c' h' w'/\MR c' h' w' m' (settle u')
def Fw.Ok(P:Program)(Δ:Fw):Prop:= ∀f a m h K,Δ f a m h K->Fx P f a m h K
section
variable {P:Program} {Γ:bR} {Δ:Fw}
theorem zM{c:Cx}{h:Heap}{w:World}{m:Option SV}{u:FrameMode}(hm:MR c h w m u):settle u=u/\u≠ .run:=by
 cases m with
 |none=>cases u<;>first|exact hm.elim|exact⟨rfl,by simp⟩
 |some v=>obtain⟨x,rfl,_⟩:=hm;exact⟨rfl,by simp⟩
theorem lp(P4:Δ.Ok P){fn:Func}{rs:List RV}(Gu:pX P fn.results.toList=some rs){R:bu->Heap->Prop}{tmps:Array Value}{R':Ending->World->Prop}{e:Env}: ∀(l:List SV) (ds:List Deferred) (m:Option SV) (u:FrameMode) (c:Cx) (h:Heap) (w:World),
  vG P Δ rs R l m e h->bT c h w->ER c h w e tmps->DR c h w l ds->MR c h w m u->
  (∀ c' h' w' r en,R r h'->bT c' h' w'->Ext c h w c' h' w'->(match r with
   | .ret v=> ∃x,en= .returned x/\VR c' h' w' v x
   | .eY v=> ∃x,en= .panicked [{v:=x,recovered:=false}]/\VR c' h' w' v x)->R' en w')->Leaves P fn tmps R' ds u w
 | [],ds,m,u,c,h,w,hp,hr,he,hd,hm,hR=>by
   have:ds=[]:=List.eq_nil_of_length_eq_zero hd.1;subst this;cases m with
   |none=>
    cases u with
    |returning=>
     obtain⟨v,x,hk,hrun,mQ⟩:=mC (P:=P) (fn:=fn) hr he Gu hp;exact⟨x,hrun,hR c h w (.ret v) _ hk hr .refl ⟨x,rfl,mQ⟩⟩
    |_=>exact hm.elim
   |some v=>
    obtain⟨x,rfl,mQ⟩:=hm;exact hR c h w (.eY v) _ hp hr .refl ⟨x,rfl,mQ⟩
 |d::l,ds,m,u,c,h,w,hp,hr,he,hd,hm,hR=>by
  cases ds with
  |nil=>exact absurd hd.1 (by simp)
  |cons dd ds=>
  obtain⟨fnv,cap,VN,hvf⟩:=hd.2 0 d dd rfl rfl;have hd':DR c h w l ds:=⟨by have:=hd.1;simpa using this,fun i v q hv hq=>hd.2 (i+1) v q (by simpa using hv) (by simpa using hq)⟩;have hp':LB P Δ m h (fun m' h'=>vG P Δ rs R l m' e h') d:=hp;unfold LB at hp';split at hp'
  ·rename_i f aa cc
   obtain⟨IP,hp'⟩:=ah.1 hp';obtain⟨a',b',heq,ha,hb,Cr,H7⟩:=hvf.nv;cases heq
   have hrun:(invoke dd.target dd.args).run P w= .ok (.enter f (dd.args++cap)) w:=by
    rw[VN];exact oB IP _
   refine⟨(zM hm).2,.func f,cap,f,dd.args++cap,VN,hrun,?_⟩;refine((P4 _ _ _ _ _ hp').calls c w (dd.args++cap) u hr (by rw[Array.size_append,List.length_append,ha,hb]) (fun i v x hv hx=> ?_) hm).mono fun en u' w' hpost=> ?_
   ·rw[List.getElem?_append]at hv
    rw[Array.getElem?_append]at hx;by_cases hi:i<aa.length
    ·rw[if_pos hi]at hv
     rw[if_pos (by omega)]at hx;exact Cr i v x hv hx
    ·rw[if_neg hi]at hv
     rw[if_neg (by omega)]at hx;exact H7 (i-aa.length) v x hv (by rw[<- ha];exact hx)
   ·obtain⟨⟨x,rfl⟩,c',h',m',hk,hr',hx',hm'⟩:=hpost
    exact lp P4 Gu l ds m' (settle u') c' h' w' hk hr' (he.mono hr hx') (hd'.mono hr hx') hm' fun c2 h2 w2 r en W7 gV hx2 wE=>hR c2 h2 w2 r en W7 gV (hx'.trans hr hx2) wE
  ·exact hp'.elim
theorem Om{op:Op}{f:aY}{args:List aY}(h:mb P op= .JA f args): ∃cl fo,op= .defer cl/\cl.callee= .value fo/\f=aD fo/\args=cl.args.toList.map aD:=by
 cases op with
 |defer cl=>
  simp only[mb]at h;split at h
  ·rename_i fo hfo
   cases h
   exact⟨cl,fo,rfl,hfo,rfl,rfl⟩
  ·cases h
 |_=>
  exfalso;revert h;simp only[mb,cond_eq_ite]
  repeat' split
  all_goals intro h
  all_goals first
   |(cases h;done)
   |(cases ‹_=Op.defer _›;done)
theorem rY(gd:Γ.Ok P){n:Nat}{ops:Array Oper}{Q:Exit->Act->World->Prop}{k:Env->Heap->List SV->Prop}{kp:SV->Env->Heap->List SV->Prop}:
  ∀(m j:Nat) (c:Cx) (h:Heap) (w:World) (e:Env) (a:Act) (ds:List SV),j+m=ops.size->I5 P Γ ((ops.toList.drop j).map (bD P n ops false)) e h ds k kp->bT c h w->ER c h w e a.tmps->a.tmps.size=n->DR c h w ds a.defers->
  (∀ e' h' ds' c' a' w',k e' h' ds'->bT c' h' w'->Ext c h w c' h' w'->ER c' h' w' e' a'.tmps->a'.tmps.size=n->DR c' h' w' ds' a'.defers->Q .normal a' w')->
  (∀ v x e' h' ds' c' a' w',kp v e' h' ds'->bT c' h' w'->Ext c h w c' h' w'->ER c' h' w' e' a'.tmps->a'.tmps.size=n->DR c' h' w' ds' a'.defers->VR c' h' w' v x->Q (.panic [{v:=x,recovered:=false}]) a' w')->
  wpOps P ops Q (List.range' j m) a w
 |0,j,c,h,w,e,a,ds,hj,hp,hr,he,hn,hd,hk,hkp=>by
  have:ops.toList.drop j=[]:=List.drop_eq_nil_iff.2 (by simp;omega);rw[this]at hp;exact hk e h ds c a w hp hr .refl he hn hd
 |m+1,j,c,h,w,e,a,ds,hj,hp,hr,he,hn,hd,hk,hkp=>by
  have hlt:j<ops.size:=by omega
  have hdr:ops.toList.drop j=ops[j]::ops.toList.drop (j+1):=by
   rw[List.drop_eq_getElem_cons (by simpa using hlt)];simp
  rw[hdr,List.map_cons]at hp;rw[List.range'_succ,wpOps_cons]
  have hp':(match(bD P n ops false ops[j]).op,(bD P n ops false ops[j]).guard with
   | .JA f args,none=>f.fe e fun f=>match f with
     | .func fn first cap=>Ao e args fun aa=>nE e (bD P n ops false ops[j]).dst .undef fun e'=>I5 P Γ ((ops.toList.drop (j+1)).map (bD P n ops false)) e' h (.func fn (first++aa) cap::ds) k kp
     |_=>False
   |op,g=>fK e g
    (fun e=>bF P Γ op e h (fun v h'=>nE e (bD P n ops false ops[j]).dst v fun e'=>I5 P Γ ((ops.toList.drop (j+1)).map (bD P n ops false)) e' h' ds k kp) (fun v h'=>kp v e h' ds))
    (fun e=>nE e (bD P n ops false ops[j]).dst (.bn []) fun e'=>I5 P Γ ((ops.toList.drop (j+1)).map (bD P n ops false)) e' h ds k kp)):=hp
  split at hp'
  ·rename_i f args hop hg
   have hok:pI n ops[j]=true/\ops[j].guard=none/\(bD P n ops false ops[j]).dst=ops[j].dst/\mb P ops[j].op= .JA f args:=by
    unfold bD at hop hg ⊢;dsimp only at hop hg ⊢;cases I6:pI n ops[j]
    ·rw[I6]at hop;cases hop
    ·rw[I6]at hop hg
     simp only[cond_true]at hop hg ⊢;cases qQ:ops[j].guard with
     |none=>rw[qQ]at hop;exact⟨trivial,rfl,rfl,hop⟩
     |some gw=>
      obtain⟨q,want⟩:=gw;rw[qQ]at hop hg;dsimp only at hop hg;split at hop
      ·rename_i t ht
       cases hb:Nat.blt t n
       ·rw[hb]at hop;cases hop
       ·rw[ht]at hg
        dsimp only at hg;rw[hb]at hg;cases hg
      ·cases hop
   obtain⟨I6,qQ,eA,SR⟩:=hok;obtain⟨cl,fo,SS,IP,rfl,rfl⟩:=Om SR;simp only[aE]at hp';have hf:=he.ev fo;split at hp'
   ·rename_i fn first cap hev
    rw[hev]at hf;obtain⟨a',b',heq,ha,hb,Cr,H7⟩:=hf.nv;simp only[kZ,eA,gZ]at hp'
    have hlt': ∀d,ops[j].dst=some d->d<n:=fun d mA=>by
     unfold pI at I6;rw[mA]at I6;exact Nat.lt_of_succ_le (by simpa[Nat.blt]using I6)
    let d:Deferred:={target:= .fn fn b',args:=a'++cl.args.map a.eval}
    have hrun:(execOp a.eval ops[j]).run P w= .ok (.defer d) w:=by
     simp[execOp,SS,resolve,IP,Deferred.ofValue,heq,d]
    unfold wpOp;rw[Array.getElem?_eq_getElem hlt];dsimp only;rw[if_pos (by simp[Region.wanted,qQ])];refine .inl ?_;unfold Oper.wp;rw[hrun,Oper.upon_defer]
    have hvd:VR c h w (.func fn (first++(cl.args.toList.map aD).map (aY.ev e)) cap) (.func fn d.args b'):=by
     refine .func _ _ _ _ _ ?_ hb (fun i v y hv hy=> ?_) H7
     ·show(a'++cl.args.map a.eval).size=_
      rw[Array.size_append,List.length_append,ha];simp
     ·rw[List.getElem?_append]at hv
      have hy:(a'++cl.args.map a.eval)[i]? =some y:=hy;rw[Array.getElem?_append]at hy;by_cases hi:i<first.length
      ·rw[if_pos hi]at hv
       rw[if_pos (by omega)]at hy;exact Cr i v y hv hy
      ·rw[if_neg hi]at hv
       rw[if_neg (by omega)]at hy;exact sg he cl.args (i-first.length) v y hv (by rw[<- ha];exact hy)
    exact rY gd m (j+1) c h w _ _ _ (by omega) hp' hr (ER.put (a:={a with defers:=d::a.defers}) he (fun t ht=>by rw[hn];exact hlt' t ht) .undef) (by rw[kr];exact hn) (by rw[put_defers];exact hd.cons rfl hvd) hk hkp
   ·exact hp'.elim
  ·refine Gq gd (k:=fun e' h'=>I5 P Γ ((ops.toList.drop (j+1)).map (bD P n ops false)) e' h' ds k kp) (kp:=fun v e' h'=>kp v e' h' ds) (Array.getElem?_eq_getElem hlt) hr he hn hp' (fun e' h' c' a' w' hkk hr' hx he' hn' hdf=> ?_) (fun v x e' h' c' w' hkk hr' hx he' hv=>hkp v x e' h' ds c' a w' hkk hr' hx he' hn (hd.mono hr hx) hv)
   refine rY gd m (j+1) c' h' w' e' a' ds (by omega) hkk hr' he' hn' (by rw[hdf];exact hd.mono hr hx) (fun e2 h2 YB c2 a2 w2 hk2 gV hx2 iL hn2 iR=> ?_) (fun v x e2 h2 YB c2 a2 w2 hk2 gV hx2 iL hn2 iR hv=> ?_)
   ·exact hk e2 h2 YB c2 a2 w2 hk2 gV (hx.trans hr hx2) iL hn2 iR
   ·exact hkp v x e2 h2 YB c2 a2 w2 hk2 gV (hx.trans hr hx2) iL hn2 iR hv
theorem yR{n:Nat}{c:Cx}{h:Heap}{w:World}{Q:bS->Env->Heap->List SV->Prop}{a:Act}{ds:List SV}(hr:bT c h w)(hd:DR c h w ds a.defers){ex:Exit}{a':Act}{w':World}
  (hp:Post c h w (fun x e h=>Q x e h ds) n a.defers ex a' w'):DF c h w Q n ex a' w':=by
 obtain⟨c',h',e',x,hq,hr',hx',he',hn',hd',hex⟩:=hp;exact⟨c',h',e',x,ds,hq,hr',hx',he',hn',by rw[hd'];exact hd.mono hr hx',hex⟩
theorem gR{Λ:kB}{n:Nat}(gd:Γ.Ok P)(oT: ∀b Q e h,Λ b Q e h->dR P b Q e h)(hm:P.follows .mixedOrders=true): ∀(code:Code) (ac:bK) (Q:bS->Env->Heap->List SV->Prop) (e:Env) (h:Heap) (ds:List SV),fh ac=true->erase ac=cB P n code->DG P Γ Λ ac Q e h ds->
  ∀(c:Cx) (w:World) (a:Act),bT c h w->ER c h w e a.tmps->a.tmps.size=n->DR c h w ds a.defers->code.wp P (DF c h w Q n) a w
 | .skip,ac,Q,e,h,ds,ho,hc,hp=>by
   cases ac<;>simp only[erase,cB]at hc<;>try cases hc
   intro c w a hr he hn hd;exact wp_skip ⟨c,h,e,.normal,ds,hp,hr,.refl,he,hn,hd,trivial⟩
 | .region id ops false,ac,Q,e,h,ds,ho,hc,hp=>by
   simp only[cB,cond_false]at hc;cases ac<;>simp only[erase]at hc<;>try cases hc
   intro c w a hr he hn hd;refine wp_region ?_;rw[List.range_eq_range'];refine rY gd ops.size 0 c h w e a ds (by simp) (by rw[List.drop_zero];exact hp) hr he hn hd (fun e' h' ds' c' a' w' hk hr' hx he' hn' hd'=> ?_) (fun v x e' h' ds' c' a' w' hk hr' hx he' hn' hd' hv=> ?_)
   ·rw[nF]at hk
    exact⟨c',h',_,.normal,ds',hk,hr',hx,he'.oS _,hn',hd',trivial⟩
   ·exact⟨c',h',e',.panic v,ds',hk,hr',hx,he',hn',hd',x,rfl,hv⟩
 | .region id ops true,ac,Q,e,h,ds,ho,hc,hp=>by
   simp only[cB,cond_true]at hc;cases ac<;>simp only[erase]at hc<;>try cases hc
   intro c w a hr he hn hd;refine wM gd hm ho hp hr he hn (fun e' h' c' a' w' hk hr' hx he' hn' hd'=> ?_) (fun v x e' h' c' a' w' hk hr' hx he' hn' hd' hv=> ?_)
   ·rw[nF]at hk
    exact⟨c',h',_,.normal,ds,hk,hr',hx,he'.oS _,hn',by rw[hd'];exact hd.mono hr hx,trivial⟩
   ·exact⟨c',h',e',.panic v,ds,hk,hr',hx,he',hn',by rw[hd'];exact hd.mono hr hx,x,rfl,hv⟩
 | .seq x y,ac,Q,e,h,ds,ho,hc,hp=>by
   cases ac<;>simp only[erase,cB,bK.seq.injEq,reduceCtorEq]at hc
   rename_i ax ay;simp only[fh,Bool.and_eq_true]at ho;intro c w a hr he hn hd;refine wp_seq (wp_mono (gR gd oT hm x ax _ e h ds ho.1 hc.1 hp c w a hr he hn hd) fun ex a' w' hpost=> ?_);obtain⟨c',h',e',xx,ds',hq,hr',hx',he',hn',hd',hex⟩:=hpost;cases ex with
   |normal=>
    cases xx<;>try exact hex.elim
    simp only[Exit.then];exact wp_mono (gR gd oT hm y ay Q e' h' ds' ho.2 hc.2 hq c' w' a' hr' he' hn' hd') fun _ _ _ tE=>tE.of hr hx'
   |exit i=>cases xx<;>first|exact hex.elim|exact⟨c',h',e',_,ds',hq,hr',hx',he',hn',hd',hex⟩
   |goto l=>cases xx<;>exact hex.elim
   |ret=>cases xx<;>first|exact hex.elim|exact⟨c',h',e',_,ds',hq,hr',hx',he',hn',hd',hex⟩
   |panic ch=>cases xx<;>first|exact hex.elim|exact⟨c',h',e',_,ds',hq,hr',hx',he',hn',hd',hex⟩
   |outgrown=>cases xx<;>exact hex.elim
 | .cond cc x y,ac,Q,e,h,ds,ho,hc,hp=>by
   cases ac<;>simp only[erase,cB,bK.cond.injEq,reduceCtorEq]at hc
   rename_i ac ax ay;obtain⟨B6,Pw,T2⟩:=hc;simp only[fh,Bool.and_eq_true]at ho;intro c w a hr he hn hd;have hv:=he.ev cc;rw[<- B6]at hv;cases ac with
   |tmp t=>
    replace hp:qU (.tmp t) e h (fun e h=>DG P Γ Λ ax Q e h ds) (fun e h=>DG P Γ Λ ay Q e h ds):=hp
    simp only[qU,iT]at hp;have hev:(aY.tmp t).ev e=Env.get e t:=rfl;rw[hev]at hv;split at hp
    ·rename_i b hb
     rw[hb]at hv;have H7:=hv.dm;refine wp_cond H7 ?_
     have hput: ∀b',b'=b->ER c h w (Env.put e t (.bool b')) a.tmps:=by
      rintro b' rfl u;rw[qm];by_cases hu:u=t
      ·subst hu
       rw[if_pos rfl];have:=he u;rw[hb]at this;exact this
      ·rw[if_neg hu];exact he u
     cases b<;>simp only[ql]at hp
     ·exact gR gd oT hm y ay Q _ h ds ho.2 T2 hp c w a hr (hput _ rfl) hn hd
     ·exact gR gd oT hm x ax Q _ h ds ho.1 Pw hp c w a hr (hput _ rfl) hn hd
    ·exact hp.elim
   |const v=>
    replace hp:qU (.const v) e h (fun e h=>DG P Γ Λ ax Q e h ds) (fun e h=>DG P Γ Λ ay Q e h ds):=hp
    simp only[qU]at hp;have hev:(aY.const v).ev e=v:=rfl;rw[hev]at hv;split at hp
    ·have H7:=hv.dm
     refine wp_cond H7 ?_;rename_i b;cases b
     ·exact gR gd oT hm y ay Q _ h ds ho.2 T2 hp c w a hr he hn hd
     ·exact gR gd oT hm x ax Q _ h ds ho.1 Pw hp c w a hr he hn hd
    ·exact hp.elim
 | .block id b,ac,Q,e,h,ds,ho,hc,hp=>by
   cases ac<;>simp only[erase,cB,bK.block.injEq,reduceCtorEq]at hc
   rename_i XS ab;obtain⟨rfl,hc⟩:=hc;intro c w a hr he hn hd;refine wp_block (wp_mono (gR gd oT hm b ab _ e h ds ho hc hp c w a hr he hn hd) fun ex a' w' hpost=> ?_);obtain⟨c',h',e',xx,ds',hq,hr',hx',he',hn',hd',hex⟩:=hpost;cases ex with
   |normal=>cases xx<;>first|exact hex.elim|exact⟨c',h',e',_,ds',hq,hr',hx',he',hn',hd',hex⟩
   |exit i=>
    cases xx<;>try exact hex.elim
    rename_i j;have hij:i=j:=hex;subst hij;simp only[Exit.inBlock];rcases bO i XS with⟨hb,hb'⟩|⟨hb,hb'⟩
    ·rw[if_pos hb']
     simp only[Bl,hb]at hq;exact⟨c',h',e',.normal,ds',hq,hr',hx',he',hn',hd',trivial⟩
    ·rw[if_neg hb']
     simp only[Bl,hb]at hq;exact⟨c',h',e',.exit i,ds',hq,hr',hx',he',hn',hd',rfl⟩
   |goto l=>cases xx<;>exact hex.elim
   |ret=>cases xx<;>first|exact hex.elim|exact⟨c',h',e',_,ds',hq,hr',hx',he',hn',hd',hex⟩
   |panic ch=>cases xx<;>first|exact hex.elim|exact⟨c',h',e',_,ds',hq,hr',hx',he',hn',hd',hex⟩
   |outgrown=>cases xx<;>exact hex.elim
 | .loop b,ac,Q,e,h,ds,ho,hc,hp=>by
   cases ac<;>simp only[erase,cB,bK.loop.injEq,reduceCtorEq]at hc
   intro c w a hr he hn hd;exact wp_mono ((oT _ _ _ _ hp).run n b hm ho hc c w a hr he hn) fun _ _ _ hpost=>yR hr hd hpost
 | .exit id,ac,Q,e,h,ds,ho,hc,hp=>by
   cases ac<;>simp only[erase,cB,bK.exit.injEq,reduceCtorEq]at hc
   subst hc;intro c w a hr he hn hd;exact wp_exit ⟨c,h,e,.exit _,ds,hp,hr,.refl,he,hn,hd,rfl⟩
 | .ret,ac,Q,e,h,ds,ho,hc,hp=>by
   cases ac<;>simp only[erase,cB,reduceCtorEq]at hc
   intro c w a hr he hn hd;exact wp_ret ⟨c,h,e,.ret,ds,hp,hr,.refl,he,hn,hd,trivial⟩
 | .rangeFunc _ _ _ _,ac,Q,e,h,ds,ho,hc,hp=>by
   cases ac<;>simp only[erase,cB,reduceCtorEq]at hc
   exact hp.elim
 | .scope _,ac,Q,e,h,ds,ho,hc,hp=>by
   cases ac<;>simp only[erase,cB,reduceCtorEq]at hc
   exact hp.elim
 | .label _,ac,Q,e,h,ds,ho,hc,hp=>by
   cases ac<;>simp only[erase,cB,reduceCtorEq]at hc
   exact hp.elim
 | .goto _,ac,Q,e,h,ds,ho,hc,hp=>by
   cases ac<;>simp only[erase,cB,reduceCtorEq]at hc
   exact hp.elim
 | .refuse _,ac,Q,e,h,ds,ho,hc,hp=>by
   cases ac<;>simp only[erase,cB,reduceCtorEq]at hc
   exact hp.elim
theorem Bm{c:Cx}{h:Heap}{w:World}{args:List SV}{xs:Array Value}{m:Nat}(hs:xs.size=args.length)(hn:args.length<=m)(hv: ∀(i:Nat) (v:SV) (x:Value),args[i]? =some v->xs[i]? =some x->VR c h w v x):
  ER c h w (gh 0 args) (xs++Array.replicate (m-xs.size) undef):=fun t=>by
 rw[rN,if_pos (Nat.zero_le _),Nat.sub_zero];by_cases ht:t<args.length
 ·have h1:args[t]? =some args[t]:=List.getElem?_eq_getElem ht
  have h2:xs[t]? =some xs[t]:=Array.getElem?_eq_getElem (by omega);have:=hv t _ _ h1 h2;have e1:args.getD t .undef=args[t]:=by simp[List.getD,h1]
  have e2:(xs++Array.replicate (m-xs.size) undef).getD t undef=xs[t]:=by
   rw[Array.getD_eq_getD_getElem?,Array.getElem?_append_left (by omega),h2];rfl
  rw[e1,e2];exact this
 ·have e1:args.getD t .undef= .undef:=by simp[List.getD,List.getElem?_eq_none (Nat.le_of_not_lt ht)]
  rw[e1];exact .undef
theorem yS{Λ:kB}(gd:Γ.Ok P)(oT: ∀b Q e h,Λ b Q e h->dR P b Q e h)(P4:Δ.Ok P){f:FuncId}{fn:Func}{code:Code}{ac:bK}{rs:List RV}{args:List SV}{h:Heap}{R:bu->Heap->Prop}(hm:P.follows .mixedOrders=true)(hf:P.funcs[f]? =some fn)(hb:fn.body=some code)
  (ho:fh ac=true)(hc:erase ac=cB P fn.ntmps code)(Gu:pX P fn.results.toList=some rs)(hn:Nat.ble args.length fn.ntmps=true)(hp:DG P Γ Λ ac (SQ P Δ rs R) (gh 0 args) h []):aC P f args h R:=by
 refine⟨fun c w xs hr hs hv=> ?_⟩;have hn:=Nat.le_of_ble_eq_true hn;refine calls_of_wp_defers hf hb (wp_mono (gR (n:=fn.ntmps) gd oT hm code ac _ _ h [] ho hc hp c w {tmps:=xs++Array.replicate (fn.ntmps-xs.size) undef,defers:=[]} hr (Bm hs hn hv) (by simp;omega) .nil) fun ex a' w' hpost=> ?_);obtain⟨c',h',e',xx,ds,hq,hr',hx',he',hn',hd',hex⟩:=hpost
 have post: ∀(c2:Cx) (h2:Heap) (w2:World) (r:bu) (en:Ending),R r h2->bT c2 h2 w2->Ext c' h' w' c2 h2 w2->(match r with
   | .ret v=> ∃x,en= .returned x/\VR c2 h2 w2 v x
   | .eY v=> ∃x,en= .panicked [{v:=x,recovered:=false}]/\VR c2 h2 w2 v x)-> ∃c' h' r,R r h'/\bT c' h' w2/\Ext c h w c' h' w2/\match r with
   | .ret v=> ∃x,en= .returned x/\VR c' h' w2 v x
   | .eY v=> ∃x,en= .panicked [{v:=x,recovered:=false}]/\VR c' h' w2 v x:=
  fun c2 h2 w2 r en hR gV hx2 wE=>⟨c2,h2,r,hR,gV,hx'.trans hr hx2,wE⟩
 cases ex with
 |normal=>cases xx<;>first|exact hex.elim|exact lp P4 Gu ds a'.defers none .returning c' h' w' hq hr' he' hd' trivial post
 |exit i=>cases xx<;>first|exact hex.elim|exact hq.elim
 |goto l=>cases xx<;>exact hex.elim
 |ret=>cases xx<;>first|exact hex.elim|exact lp P4 Gu ds a'.defers none .returning c' h' w' hq hr' he' hd' trivial post
 |panic ch=>
  cases xx<;>try exact hex.elim
  obtain⟨x,rfl,mQ⟩:=hex;exact lp P4 Gu ds a'.defers (some _) (.panicking [{v:=x,recovered:=false}]) c' h' w' hq hr' he' hd' ⟨x,rfl,mQ⟩ post
 |outgrown=>cases xx<;>exact hex.elim
theorem xH{Λ:kB}(gd:Γ.Ok P)(oT: ∀b Q e h,Λ b Q e h->dR P b Q e h){f:FuncId}{fn:Func}{code:Code}{ac:bK}{rs:List RV}{args:List SV}{h:Heap}{m:Option SV}{K:Option SV->Heap->Prop}(hm:P.follows .mixedOrders=true)(hf:P.funcs[f]? =some fn)(hb:fn.body=some code)
  (ho:fh ac=true)(hc:erase ac=cB P fn.ntmps code)(Gu:pX P fn.results.toList=some rs)(hn:Nat.ble args.length fn.ntmps=true)(hp:oZ P Γ Λ ac (wP rs fun r h'=>match r with| .ret _=>K m h'| .eY _=>False) (gh 0 args) h):Fx P f args m h K:=by
 refine⟨fun c w xs u hr hs hv hmr=> ?_⟩;have hn:=Nat.le_of_ble_eq_true hn;refine(callsD_of_wp (u:=u) (R:=fun e w'=>(∃ x,e= .returned x)/\ ∃c' h',K m h'/\bT c' h' w'/\Ext c h w c' h' w') hf hb (wp_mono (dX (n:=fn.ntmps) gd oT hm code ac _ _ h ho hc hp c w {tmps:=xs++Array.replicate (fn.ntmps-xs.size) undef,defers:=[]} hr (Bm hs hn hv) (by simp;omega)) fun ex a' w' hpost=> ?_)).mono fun e u' w' hh=> ?_
 ·obtain⟨c',h',e',xx,hq,hr',hx',he',hn',hd',hex⟩:=hpost
  have fin:(tS rs e' h' fun vs=>match vs with
    | [v]=>(match bu.ret v with| .ret _=>K m h'| .eY _=>False)
    |vs=>(match bu.ret (.bn vs)with| .ret _=>K m h'| .eY _=>False))->a'.defers=[]/\ ∃v,(results fn a'.tmps).run P w'= .ok v w'/\(∃ x,Ending.returned v= .returned x)/\ ∃c' h',K m h'/\bT c' h' w'/\Ext c h w c' h' w':=fun hq=>by
   obtain⟨v,x,hR,hrun,mQ⟩:=mC (P:=P) (fn:=fn) (R:=fun r h'=>match r with| .ret _=>K m h'| .eY _=>False) hr' he' Gu hq;exact⟨hd',x,hrun,⟨x,rfl⟩,c',h',hR,hr',hx'⟩
  cases ex with
  |normal=>cases xx<;>first|exact hex.elim|exact fin hq
  |exit i=>cases xx<;>first|exact hex.elim|exact hq.elim
  |goto l=>cases xx<;>exact hex.elim
  |ret=>cases xx<;>first|exact hex.elim|exact fin hq
  |panic ch=>cases xx<;>first|exact hex.elim|exact hq.elim
  |outgrown=>cases xx<;>exact hex.elim
 ·obtain⟨rfl,YC,c',h',hk,hr',hx'⟩:=hh
  exact⟨YC,c',h',m,hk,hr',hx',by rw[(zM hmr).1];exact hmr.mono hr hx'⟩
theorem aB.VO{Λ:kB}(gd:Γ.Ok P)(oT: ∀b Q e h,Λ b Q e h->dR P b Q e h)(P4:Δ.Ok P){f:Nat}{t:bI}{args:List SV}{h:Heap}{R:bu->Heap->Prop}(ht:aB P f t)(hm:P.follows .mixedOrders=true)(hn:Nat.ble args.length t.nt=true)(hp:DG P Γ Λ t.code (SQ P Δ t.rs R) (gh 0 args) h []):aC P f args h R:=by
 obtain⟨fn,code,h1,h2,h3,h4,h5,h6⟩:=ht.ok;exact yS gd oT P4 hm h1 h2 h3 h4 h5 (by rw[<- h6];exact hn) hp
end
end
end Ab
