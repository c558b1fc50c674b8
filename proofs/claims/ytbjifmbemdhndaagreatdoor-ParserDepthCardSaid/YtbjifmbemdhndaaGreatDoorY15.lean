/- Parts of the proof of PParserDepth, one behind the other, with short names. -/
import Derived.Test.YtbjifmbemdhndaaGreatDoorY14
set_option linter.unusedVariables false
set_option linter.unusedSimpArgs false
namespace Ab
open Go
section
def j0(P:Program)(Γ:bH)(o:aF)(e:Env)(h:Heap):Prop:= ∃v,(∀ t,o.dst=some t->Lk (Env.get e t) v)/\
 ((iM e o.guard=some true/\ ∀K' eU:SV->Heap->Prop,K' v h->bw P Γ o.op e h K' eU)\/(iM e o.guard=some false/\v= .aN []))
theorem nM{e e':Env}{o:aF}(hE: ∀t∈o.reads,Env.get e t=Env.get e' t):iM e o.guard=iM e' o.guard:=by
 unfold iM;cases hg:o.guard with
 |none=>rfl
 |some gw=>
  obtain⟨t,want⟩:=gw;dsimp only;rw[hE t (by simp[aF.reads,hg])]
theorem ia{P:Program}{Γ:bH}{e e':Env}{h:Heap}{o:aF}{K kp:SV->Heap->Prop}(hE: ∀t∈o.reads,Env.get e t=Env.get e' t):bw P Γ o.op e h K kp=bw P Γ o.op e' h K kp:=
 vZ fun t ht=>hE t (by simp[aF.reads,ht])
theorem j0.congr{P:Program}{Γ:bH}{e e':Env}{h:Heap}{o:aF}(hE: ∀t∈o.reads,Env.get e t=Env.get e' t)(hd: ∀t,o.dst=some t->Env.get e t=Env.get e' t)(hp:j0 P Γ o e h):j0 P Γ o e' h:=by
 obtain⟨v,h1,h2⟩:=hp;refine⟨v,fun t ht=>by rw[<- hd t ht];exact h1 t ht,?_⟩;rw[<- nM hE];rcases h2 with⟨h2,h3⟩|h2
 ·exact .inl ⟨h2,fun K' eU hk=>by rw[<- ia hE];exact h3 K' eU hk⟩
 ·exact .inr h2
theorem j0.heap{P:Program}{Γ:bH}{e:Env}{h h':Heap}{o:aF}(hc:o.op.cls=0)(hp:j0 P Γ o e h):j0 P Γ o e h':=by
 obtain⟨v,h1,h2⟩:=hp;refine⟨v,h1,?_⟩;rcases h2 with⟨h2,h3⟩|h2
 ·refine .inl ⟨h2,fun K' eU hk=> ?_⟩
  obtain⟨v',oN,hd⟩:=zC (k:=fun u _=>u=v) hc (h3 (fun u _=>u=v) (fun _ _=>False) rfl);subst oN;exact hd h' K' eU hk
 ·exact .inr h2
theorem lS(e:Env)(d:Option Nat)(v:SV)(t:Nat):(d=some t->Env.get (nD e d v) t=v)/\(d≠some t->Env.get (nD e d v) t=Env.get e t):=by
 cases d with
 |none=>exact⟨(fun h=>by cases h),fun _=>rfl⟩
 |some u=>
  simp only[nD,n9];refine⟨fun h=> ?_,fun h=> ?_⟩
  ·cases h;rw[if_pos rfl]
  ·rw[if_neg (fun e=>h (by rw[e]))]
theorem ic{P:Program}{Γ:bH}(fF:Γ.Ok P){L:List aF}{p:Prop}: ∀ {ag:List Nat} {e:Env} {h:Heap},(∀ i∈ag,∀o,L[i]? =some o->o.op.cls<=1\/s9 o=true)->mj P Γ L ag e h p->
  p/\ ∀i∈ag,∀o,L[i]? =some o->o.op.cls<=1->iM e o.guard=some true->j0 P Γ o e h
 | [],e,h,_,hp=>⟨hp,fun i hi=>by cases hi⟩
 |j::r,e,h,hc,hp=>by
  rw[yS]at hp;rw[dV]at hp;split at hp
  ·exact hp.elim
  ·rename_i o ho
   have sq: ∀i∈r,∀o,L[i]? =some o->o.op.cls<=1\/s9 o=true:=fun i hi=>hc i (by simp[hi])
   cases hB:s9 o with
   |true=>
    rw[hB]at hp;obtain⟨h1,h2⟩:=ic fF (ag:=r) sq hp;refine⟨h1,fun i hi o' ho' eI hw=> ?_⟩;rcases List.mem_cons.1 hi with rfl|hi
    ·rw[ho]at ho';cases ho'
     rw[xN hB]at eI;omega
    ·exact h2 i hi o' ho' eI hw
   |false=>
   rw[hB]at hp;have vW:o.op.cls<=1:=(hc j (by simp) o ho).resolve_right (by rw[hB];decide)
   have fin: ∀ {e1:Env},LN e e1->(iM e o.guard=some true->j0 P Γ o e h)->(p/\ ∀i∈r,∀o,L[i]? =some o->o.op.cls<=1->iM e1 o.guard=some true->j0 P Γ o e1 h)->
     p/\ ∀i∈j::r,∀o,L[i]? =some o->o.op.cls<=1->iM e o.guard=some true->j0 P Γ o e h:=by
    intro e1 hE Vv ⟨LQ,hr⟩;refine⟨LQ,fun i hi o' ho' eI hw=> ?_⟩;rcases List.mem_cons.1 hi with rfl|hi
    ·rw[ho]at ho';cases ho';exact Vv hw
    ·exact(hr i hi o' ho' eI (by rw[<- nM (fun t _=>hE t)];exact hw)).congr (fun t _=>(hE t).symm) (fun t _=>(hE t).symm)
   rcases jy hp with⟨hw,e1,hE,hp⟩|⟨hw,e1,hE,hp⟩
   ·obtain⟨v,hv,hd⟩:=tX vW hp
    have Kc:(∀ t,o.dst=some t->Lk (Env.get e t) v)->j0 P Γ o e h:=fun dZ=>⟨v,dZ,.inl ⟨hw,fun K' eU hk=>by rw[ia (fun t _=>hE t)];exact hd K' eU hk⟩⟩
    split at hv
    ·rename_i t dZ
     rw[gJ]at hv;obtain⟨Vw,hv⟩:=fF.same _ _ _ hv;exact fin hE (fun _=>Kc fun t' ht'=>by rw[dZ]at ht';cases ht';rw[hE];exact Vw) (ic fF sq hv)
    ·rename_i dZ
     exact fin hE (fun _=>Kc fun t' ht'=>by rw[dZ]at ht';cases ht') (ic fF sq hv)
   ·exact fin hE (fun hw'=>by rw[hw]at hw';cases hw') (ic fF sq hp)
theorem nN{α:Type}{R:α->α->Prop}: ∀ {l:List α},l.Pairwise R-> ∀a∈l,∀b∈l,a=b\/R a b\/R b a
 | [],_,a,ha,_,_=>by cases ha
 |x::r,.cons hx hr,a,ha,b,hb=>by
  rcases List.mem_cons.1 ha with rfl|Uk<;>rcases List.mem_cons.1 hb with rfl|hb'
  ·exact .inl rfl
  ·exact .inr (.inl (hx b hb'))
  ·exact .inr (.inr (hx a Uk))
  ·exact nN hr a Uk b hb'
structure sR(L:List aF)(ms:List Nat)(ord:List oE)(T:List Nat):Prop where
 mask: ∀(j:Nat) (o:aF),L[j]? =some o->ms.getD j 0=xK ms o.pre/\ ∀k∈o.pre,k<j
 pw:ord.Pairwise fun a b=>Rs L ms a b=true
 Ke: ∀b∈ord,Rt L b=true
 all: ∀i,i<L.length->(∃ b∈ord,b.1=i)\/i∈T
 un: ∀b∈ord,kU b.2.2 b.1=false
 tail: ∀i∈T,∃o,L[i]? =some o/\o.op.oM=false/\(o.op.cls<=1\/o.op.mD=true)/\ ∀b∈ord,Nat.testBit (ms.getD i 0) b.1=true
theorem rC: ∀(ord:List oE),ord=(fj ord).1++(fj ord).2/\(∀ b∈(fj ord).1,kU b.2.2 b.1=false)/\((fj ord).2=[]\/ ∃a r,(fj ord).2=a::r/\kU a.2.2 a.1=true)
 | []=>⟨rfl,(fun b hb=>by cases hb),.inl rfl⟩
 |a::r=>by
  unfold fj;cases hm:kU a.2.2 a.1 with
  |true=>exact⟨rfl,(fun b hb=>by cases hb),.inr ⟨a,r,rfl,hm⟩⟩
  |false=>
   obtain⟨h1,h2,h3⟩:=rC r;refine⟨congrArg (a:: ·) h1,fun b hb=> ?_,h3⟩;rcases List.mem_cons.1 hb with rfl|hb
   ·exact hm
   ·exact h2 b hb
theorem BN{L:List aF}{ord:List oE}(h:DO L ord=true):sR L (qs L []) (fj ord).1 ((fj ord).2.map fun y=>y.1):=by
 simp only[DO,Bool.and_eq_true]at h;obtain⟨⟨⟨⟨h1,h2⟩,h3⟩,h4⟩,h5⟩:=h;refine⟨fun j o hj=> ?_,nL h2,fun b hb=>List.all_eq_true.1 h3 b hb,fun i hi=> ?_,(rC ord).2.1,fun i hi=> ?_⟩
 ·have hlt:j<L.length:=by
   rcases Nat.lt_or_ge j L.length with h|h
   ·exact h
   ·rw[List.getElem?_eq_none h]at hj;cases hj
  have:=List.all_eq_true.1 h1 j (List.mem_range.2 hlt);rw[hj]at this;simp only[Bool.and_eq_true]at this;refine⟨Nat.eq_of_beq_eq_true this.1,fun k hk=> ?_⟩;have:=List.all_eq_true.1 this.2 k hk;exact Nat.lt_of_succ_le (by simpa[Nat.blt]using this)
 ·have:=List.all_eq_true.1 h4 i (List.mem_range.2 hi)
  rw[Bool.or_eq_true]at this;rcases this with this|this
  ·obtain⟨b,hb,he⟩:=List.any_eq_true.1 this
   exact .inl ⟨b,hb,Nat.eq_of_beq_eq_true he⟩
  ·obtain⟨b,hb,he⟩:=List.any_eq_true.1 this
   exact .inr (List.mem_map.2 ⟨b,hb,Nat.eq_of_beq_eq_true he⟩)
 ·obtain⟨a,ha,rfl⟩:=List.mem_map.1 hi
  have:=List.all_eq_true.1 h5 a ha;unfold Uj at this;split at this
  ·rename_i o ho
   simp only[Bool.and_eq_true,Bool.or_eq_true,Bool.not_eq_true']at this;exact⟨o,ho,this.1,this.2.1.imp Nat.le_of_ble_eq_true id,fun b hb=>List.all_eq_true.1 this.2.2 b hb⟩
  ·cases this
structure Ru(L:List aF)(ms:List Nat)(a b:oE)(oa ob:aF):Prop where
 ne:a.1≠b.1
 dst: ∀t,oa.dst=some t->ob.dst≠some t
 ab: ∀t,oa.dst=some t->t∈ob.reads->Nat.testBit (ms.getD b.1 0) a.1=true
 ba: ∀t,ob.dst=some t->t∈oa.reads->b.2.1=true/\Nat.testBit (ms.getD b.1 0) a.1=true
 st:a.2.1=true->Nat.testBit (ms.getD b.1 0) a.1=true\/FO ob=true\/(s9 ob=true/\b.1∈a.2.2)
 rd:a.2.1=false->b.2.1=true->Nat.testBit (ms.getD b.1 0) a.1=true\/oa.op.cls=0\/a.1∈b.2.2
theorem eG{L:List aF}{ms:List Nat}{a b:oE}(h:Rs L ms a b=true): ∃oa ob,L[a.1]? =some oa/\L[b.1]? =some ob/\Ru L ms a b oa ob:=by
 unfold Rs at h;split at h
 ·rename_i oa ob ha hb
  refine⟨oa,ob,ha,hb,?_⟩;simp only[Bool.and_eq_true]at h;obtain⟨⟨⟨⟨h1,h2⟩,h3⟩,h4⟩,h5⟩:=h;refine⟨fun e=>by rw[e]at h1;simp at h1,fun t ht=> ?_,fun t ht hr=> ?_,fun t ht hr=> ?_,fun hs=> ?_,fun hs hb=> ?_⟩
  ·rw[ht]at h2
   simp only[Bool.and_eq_true]at h2;intro e;rw[e]at h2;simp at h2
  ·rw[ht]at h2
   simp only[Bool.and_eq_true,Bool.or_eq_true,Bool.not_eq_true']at h2;rcases h2.2 with h2|h2
   ·rw[lQ.2 hr]at h2;cases h2
   ·exact h2
  ·rw[ht]at h3
   simp only[Bool.and_eq_true,Bool.or_eq_true,Bool.not_eq_true']at h3;rcases h3 with h3|h3
   ·rw[lQ.2 hr]at h3;cases h3
   ·exact h3
  ·rw[hs]at h4
   simp only[Bool.not_true,Bool.false_or,Bool.or_eq_true,Bool.and_eq_true]at h4;rcases h4 with h4|h4|h4
   ·exact .inl h4
   ·exact .inr (.inl h4)
   ·exact .inr (.inr ⟨h4.1,lQ.1 h4.2⟩)
  ·rw[hs,hb]at h5
   simp only[Bool.not_true,Bool.false_or,Bool.or_eq_true]at h5;rcases h5 with h5|h5|h5
   ·exact .inl h5
   ·exact .inr (.inl (Nat.eq_of_beq_eq_true h5))
   ·exact .inr (.inr (lQ.1 h5))
 ·cases h
structure Vx(L:List aF)(a:oE)(o:aF):Prop where
 good:o.op.oM=false
 cls:a.2.1=false->o.op.cls<=1
 again:a.2.1=false->a.2.2=[]
 self:a.2.1=false-> ∀t,o.dst=some t->t∉o.reads
 ag: ∀i∈a.2.2,∀oi,L[i]? =some oi->oi.op.cls<=1\/s9 oi=true
 lk: ∀i∈a.2.2,∀oi,L[i]? =some oi->s9 oi=true-> ∀(q:Nat) (oq:aF) (t:Nat),L[q]? =some oq->oq.dst=some t->t∈oi.reads->FO oq=false/\s9 oq=false
theorem iN{L:List aF}{a:oE}(h:Rt L a=true): ∃o,L[a.1]? =some o/\Vx L a o:=by
 unfold Rt at h;split at h
 ·rename_i o ho
  refine⟨o,ho,?_⟩;simp only[Bool.and_eq_true,Bool.or_eq_true,Bool.not_eq_true']at h;obtain⟨⟨⟨h1,h2⟩,h3⟩,h4⟩:=h;refine⟨h1,fun hs=> ?_,fun hs=> ?_,fun hs t ht hr=> ?_,fun i hi oi LS=> ?_,fun i hi oi LS hB q oq t hq Vy Vz=> ?_⟩
  ·rcases h2 with h2|h2
   ·exact Nat.le_of_ble_eq_true h2
   ·rw[hs]at h2;cases h2
  ·rcases h3 with h3|h3
   ·rw[hs]at h3;cases h3
   ·exact List.isEmpty_iff.1 h3.1
  ·rcases h3 with h3|h3
   ·rw[hs]at h3;cases h3
   ·have:=h3.2
    rw[ht]at this;simp only[Bool.not_eq_true']at this;rw[lQ.2 hr]at this;cases this
  ·have:=List.all_eq_true.1 h4 i hi
   rw[LS]at this;simp only[Bool.or_eq_true,Bool.and_eq_true]at this;rcases this with h|h
   ·exact .inl (Nat.le_of_ble_eq_true h)
   ·exact .inr h.1
  ·have:=List.all_eq_true.1 h4 i hi
   rw[LS]at this;simp only[Bool.or_eq_true,Bool.and_eq_true]at this;rcases this with h|h
   ·have:=Nat.le_of_ble_eq_true h
    rw[xN hB]at this;omega
   ·have:=List.all_eq_true.1 h.2 oq (List.mem_of_getElem? hq)
    rw[Vy]at this;simp only[Bool.or_eq_true,Bool.not_eq_true',Bool.or_eq_false_iff]at this;rcases this with h|h
    ·rw[lQ.2 Vz]at h;cases h
    ·exact h
 ·cases h
section
variable {P:Program} {Γ:bH} {n:Nat} {ops:Array Oper} {ord:List oE} {TT:List Nat} {ms:List Nat} {k:Env->Heap->Prop} {kp:SV->Env->Heap->Prop} {Q:Exit->Act->World->Prop} {c0:Cx} {h0:Heap} {w0:World} {ds:List Deferred}
abbrev LL(P:Program)(n:Nat)(ops:Array Oper):List aF:=ops.toList.map (bt P n ops true)
def Made(L:List aF)(o:aF)(t B:Nat)(w:World)(a:Act):Prop:=
 (FO o=true/\o.reads=[]/\ ∃ty sz v C,o.op= .box ty sz (.const v)/\v.cells.length=sz/\v≠ .undef/\a.tmps.getD t undef= .pointer (some ⟨B,0,none⟩)/\
  w.heap[B]? =some (.cells C ty (0,0))/\C.size=sz/\ ∀(j:Nat) (u:SV) (x:Value),v.cells[j]? =some u->C[j]? =some x-> ∀Im w',VP Im w' u x)\/
 (s9 o=true/\(∀ (q:Nat) (oq:aF) (t':Nat),L[q]? =some oq->oq.dst=some t'->t'∈o.reads->FO oq=false/\s9 oq=false)/\
  ∃(ty:TypeId) (sz:Nat) (zero:SV) (n:Nat) (ps:List (Nat×Operand)) (C0 C:Array Value),o.op= .buildSlice ty sz zero n (ps.map fun(j,x)=>(j,aC x))/\(∀ (c:Cx) (h:Heap) (w:World),LR c h w sz (List.replicate n zero) C0)/\
   Instr.fill (fun j=>some (j*sz,sz)) C0 (ps.map fun(j,x)=>(j,a.eval x))=some C/\a.tmps.getD t undef= .slice (some ⟨B,0,none⟩) n n/\w.heap[B]? =some (.cells C ty (0,0)))
theorem Made.LU{L:List aF}{o:aF}{t B:Nat}{w:World}{a:Act}(h:Made L o t B w a):FO o=true\/s9 o=true:=by
 rcases h with h|h
 ·exact .inl h.1
 ·exact .inr h.1
theorem Made.nr{L:List aF}{o:aF}{t B:Nat}{w:World}{a:Act}(h:Made L o t B w a){q:Nat}{oq:aF}{t':Nat}(hq:L[q]? =some oq)(ht:oq.dst=some t')(hr:t'∈o.reads):FO oq=false/\s9 oq=false:=by
 rcases h with h|h
 ·rw[h.2.1]at hr;cases hr
 ·exact h.2.1 q oq t' hq ht hr
theorem Made.mono{L:List aF}{o:aF}{t B:Nat}{w w':World}{a a':Act}(h:Made L o t B w a)(hw:w'.heap[B]? =w.heap[B]?)(ht: ∀t',t'=t\/t'∈o.reads->a'.tmps.getD t' undef=a.tmps.getD t' undef):Made L o t B w' a':=by
 rcases h with⟨h1,h2,ty,sz,v,C,h3,h4,h5,h6,h7,h8⟩|⟨h1,h2,ty,sz,zero,n,ps,C0,C,h3,h4,h5,h6,h7⟩
 ·exact .inl ⟨h1,h2,ty,sz,v,C,h3,h4,h5,by rw[ht t (.inl rfl)];exact h6,by rw[hw];exact h7,h8⟩
 ·refine .inr ⟨h1,h2,ty,sz,zero,n,ps,C0,C,h3,h4,?_,by rw[ht t (.inl rfl)];exact h6,by rw[hw];exact h7⟩
  have he:(ps.map fun(j,x)=>(j,a'.eval x))=ps.map fun(j,x)=>(j,a.eval x):=by
   refine List.map_congr_left fun p hp=> ?_
   obtain⟨j,x⟩:=p;dsimp only;rw[sA (a:=a) (a':=a') x fun t' ht'=>ht t' (.inr ?_)];unfold aF.reads;rw[h3];refine List.mem_append_left _ (List.mem_flatMap.2 ⟨(j,aC x),List.mem_map.2 ⟨(j,x),hp,rfl⟩,ht'⟩)
  rw[he];exact h5
theorem Made.R6{P:Program}{Γ:bH}{L:List aF}{o:aF}{t B nn:Nat}{l:List (Nat×aA)}{c:Cx}{w:World}{e:Env}{a:Act}{k kp:SV->Heap->Prop}(hm:Made L o t B w a)
  (hT: ∀t'∈o.reads,VR c ⟨nn,l⟩ w (Env.get e t') (a.tmps.getD t' undef))(hp:bw P Γ o.op e ⟨nn,l⟩ k kp):
  ∃(sz:Nat) (elems:List SV) (ty:TypeId) (C:Array Value) (V:SV),w.heap[B]? =some (.cells C ty (0,0))/\LR c ⟨nn,l⟩ w sz elems C/\k V ⟨nn+1,(nn,.vec 0 sz elems ⟨false,some ty⟩)::l⟩/\
   VR (c.push nn B) ⟨nn+1,(nn,.vec 0 sz elems ⟨false,some ty⟩)::l⟩ w V (a.tmps.getD t undef):=by
 rcases hm with⟨_,_,ty,sz,v,C,hop,hvl,R7,LV,hw,Uf,hcell⟩|⟨_,_,ty,sz,zero,n,ps,C0,C,hop,VA,hf,LV,hw⟩
 ·rw[hop]at hp
  dsimp only[bw,aR.eJ]at hp;obtain⟨_,hp⟩:=cR.1 hp
  replace hp:=ah.1 hp
  obtain⟨_,hp⟩:=hp;refine⟨sz,[v],ty,C,.ref nn 0 0 0,hw,⟨by simpa using Uf,fun v' oN=>by simp only[List.mem_singleton]at oN;subst oN;exact hvl,fun i j e u x he hu hx=> ?_⟩,hp,by rw[LV];exact xF⟩;cases i with
  |zero=>simp at he;subst he;exact .pure (hcell j u x hu (by simpa using hx) _ _)
  |succ i=>simp at he
 ·rw[hop]at hp
  simp only[bw,iI]at hp
  have hsub: ∀t'∈(ps.map fun(j,x)=>(j,aC x)).flatMap (fun p=>p.2.use),t'∈o.reads:=fun t' ht'=>by
   unfold aF.reads;rw[hop];exact List.mem_append_left _ ht'
  have LP:ER c ⟨nn,l⟩ w (Env.only o.reads e) a.tmps:=fun t'=>by
   rw[jz];split
   ·exact hT t' ‹_›
   ·exact .undef
  rw[kG (e':=Env.only o.reads e) (fun t' ht'=>by rw[jz,if_pos (hsub t' ht')])]at hp;obtain⟨cs',C',hk',hf',hlr,hlen⟩:=iu LP sz ps _ C0 (VA _ _ _) hp;rw[hf]at hf';cases hf'
  exact⟨sz,cs',ty,C,.sl nn 0 sz 0 n (some n),hw,hlr,hk',by rw[LV];exact F7 hw (Nat.le_refl _) (by rw[hlr.1,hlen];simp)⟩
structure rD(P:Program)(n:Nat)(ops:Array Oper)(w0:World)(pb:Nat->Nat)(c:Cx)(h:Heap)(w:World)(a:Act)(i:Nat):Prop where
 ex: ∃o t,(LL P n ops)[i]? =some o/\o.dst=some t/\o.guard=none/\Made (LL P n ops) o t (pb i) w a
 ge:w0.heap.size<=pb i
 lt:pb i<w.heap.size
 Gn: ∀j o,h.obj j=some o->c.β j≠pb i
 Pf: ¬c.Im (pb i)
abbrev dH(done:List oE)(i:Nat):Prop:= ∀b∈done,b.1≠i
structure vv(P:Program)(Γ:bH)(n:Nat)(ops:Array Oper)(ord:List oE)(k:Env->Heap->Prop)(kp:SV->Env->Heap->Prop)(c0:Cx)(h0:Heap)(w0:World)(ds:List Deferred)
  (done rest:List oE)(listed:Array Bool)(pb:Nat->Nat)(c:Cx)(h:Heap)(w:World)(e:Env)(a:Act):Prop where
 split:ord=done++rest
 rep:bP c h w
 ext:Ext c0 h0 w0 c h w
 size:a.tmps.size=n
 defers:a.defers=ds
 lsize:listed.size=ops.size
 cont:ju P Γ (LL P n ops) rest e h k kp
 dc: ∀i,listed.getD i false=true->(∃ b∈done,b.1=i)\/rD P n ops w0 pb c h w a i
 E6: ∀i j,listed.getD i false=true->listed.getD j false=true->dH done i->dH done j->pb i=pb j->i=j
 sd: ∀b∈done,b.2.1=true->listed.getD b.1 false=true
 closed: ∀i,listed.getD i false=true-> ∀o,(LL P n ops)[i]? =some o-> ∀j∈o.pre,listed.getD j false=true
 T: ∀t,(∀ b∈done,listed.getD b.1 false=false-> ∀o,(LL P n ops)[b.1]? =some o->o.dst≠some t)->(∀ i,listed.getD i false=true->dH done i-> ∀o,(LL P n ops)[i]? =some o->o.dst≠some t)->VR c h w (Env.get e t) (a.tmps.getD t undef)
 Pd: ∀b∈done,listed.getD b.1 false=false-> ∀o,(LL P n ops)[b.1]? =some o->j0 P Γ o e h
theorem DP(hF:sR (LL P n ops) ms ord TT): ∀(m j:Nat) {o:aF},j<m->(LL P n ops)[j]? =some o-> ∀i,Nat.testBit (ms.getD j 0) i=true->i<j
 |0,j,o,hj,_,_,_=>by omega
 |m+1,j,o,hj,ho,i,hb=>by
  obtain⟨h1,h2⟩:=hF.mask j o ho;rw[h1]at hb;rcases nK ms i o.pre 0 hb with hb|⟨q,hq,hb⟩
  ·simp at hb
  ·have Ul:=h2 q hq
   rcases hb with rfl|hb
   ·exact Ul
   ·have hjl:j<(LL P n ops).length:=by
     rcases Nat.lt_or_ge j (LL P n ops).length with h|h
     ·exact h
     ·rw[List.getElem?_eq_none h]at ho;cases ho
    have Rv:(LL P n ops)[q]? =some (LL P n ops)[q]:=List.getElem?_eq_getElem (by omega);have:=DP hF m q (by omega) Rv i hb;omega
theorem mE(hF:sR (LL P n ops) ms ord TT){listed:Array Bool}(eI: ∀i,listed.getD i false=true-> ∀o,(LL P n ops)[i]? =some o-> ∀j∈o.pre,listed.getD j false=true):
  ∀(m j:Nat) (o:aF),j<m->(LL P n ops)[j]? =some o->(∀ i∈o.pre,listed.getD i false=true)-> ∀i,Nat.testBit (ms.getD j 0) i=true->listed.getD i false=true
 |0,j,o,hj,_,_,_,_=>by omega
 |m+1,j,o,hj,ho,hpre,i,hb=>by
  obtain⟨h1,h2⟩:=hF.mask j o ho;rw[h1]at hb;rcases nK ms i o.pre 0 hb with hb|⟨q,hq,hb⟩
  ·simp at hb
  ·rcases hb with rfl|hb
   ·exact hpre _ hq
   ·have Ul:=h2 q hq
    have hjl:j<(LL P n ops).length:=by
     rcases Nat.lt_or_ge j (LL P n ops).length with h|h
     ·exact h
     ·rw[List.getElem?_eq_none h]at ho;cases ho
    have Rv:(LL P n ops)[q]? =some (LL P n ops)[q]:=List.getElem?_eq_getElem (by omega);exact mE hF eI m q _ (by omega) Rv (eI q (hpre q hq) _ Rv) i hb
theorem IK{o:aF}(h:FO o=true):o.op.cls=2:=by
 obtain⟨t,ty,sz,v,pre,rfl,_⟩:=xM h;rfl
theorem kX(hF:sR (LL P n ops) ms ord TT){done rest:List oE}(hs:ord=done++rest){b:oE}(hb:b∈rest):dH done b.1:=by
 intro b' hb' he;have Kf:=hF.pw;rw[hs,List.pairwise_append]at Kf;obtain⟨oa,ob,_,_,hr⟩:=eG (Kf.2.2 b' hb' b hb);exact hr.ne he
theorem Gp(hF:sR (LL P n ops) ms ord TT){done rest:List oE}{listed:Array Bool}{pb:Nat->Nat}{c:Cx}{h:Heap}{w:World}{e:Env}{a:Act}(hd:vv P Γ n ops ord k kp c0 h0 w0 ds done rest listed pb c h w e a){b:oE}(hb:b∈rest)
  {o:aF}(ho:(LL P n ops)[b.1]? =some o)(hc:o.op.cls<=1):listed.getD b.1 false=false:=by
 cases hl:listed.getD b.1 false with
 |false=>rfl
 |true=>
  rcases hd.dc b.1 hl with⟨b',hb',he⟩|hp
  ·exact absurd he (kX hF hd.split hb b' hb')
  ·obtain⟨o',t,nc,_,_,hm⟩:=hp.ex
   rw[ho]at nc;cases nc
   rcases hm.LU with h|h
   ·rw[IK h]at hc;omega
   ·rw[xN h]at hc;omega
theorem tY(hF:sR (LL P n ops) ms ord TT){listed:Array Bool}(eI: ∀i,listed.getD i false=true-> ∀o,(LL P n ops)[i]? =some o-> ∀j∈o.pre,listed.getD j false=true){p:Nat}(hp:listed.getD p false=true){o:aF}(ho:(LL P n ops)[p]? =some o):
  ∀q,Nat.testBit (ms.getD p 0) q=true->listed.getD q false=true:=
 mE hF eI (p+1) p o (Nat.lt_succ_self _) ho (eI p hp o ho)
theorem rD.mono{pb:Nat->Nat}{c c':Cx}{h h':Heap}{w w':World}{a a':Act}{i:Nat}(hp:rD P n ops w0 pb c h w a i)(hx:Ext c h w c' h' w')
  (hs: ∀o t,(LL P n ops)[i]? =some o->o.dst=some t\/t∈o.reads->a'.tmps.getD t undef=a.tmps.getD t undef):rD P n ops w0 pb c' h' w' a' i:=by
 obtain⟨⟨o,t,nc,dZ,hg,hm⟩,hge,hlt,hnn,hni⟩:=hp;refine⟨⟨o,t,nc,dZ,hg,hm.mono (hx.frame _ hlt hnn) fun t' ht'=>hs o t' nc (ht'.imp (fun h=>by rw[h];exact dZ) fun h=>h)⟩,hge,Nat.lt_of_lt_of_le hlt hx.size,fun j o' ho' he=> ?_,fun hb=> ?_⟩
 ·rcases hx.new j o' ho' with h1|⟨o,ho,h1⟩
  ·omega
  ·exact hnn j o ho (h1▸he)
 ·rcases hx.im' _ hb with h1|h1|⟨j,o,ho,h1⟩
  ·exact hni h1
  ·omega
  ·exact hnn j o ho h1
theorem VR.name{c:Cx}{nn:Nat}{l:List (Nat×aA)}{w:World}(ob:aA)(B:Nat){v:SV}{x:Value}(h:VR c ⟨nn,l⟩ w v x):VR (c.push nn B) ⟨nn+1,(nn,ob)::l⟩ w v x:=by
 induction h with
 |pure h=>exact .pure h
 |ref i g idx sub x hx hi hg h=>
  have hi':i<nn:=hi;refine .ref _ _ _ _ _ hx (Nat.lt_succ_of_lt hi') (fun o ho=> ?_) fun o ho hgo=> ?_
  ·rw[cq,if_neg (by omega)]at ho;exact hg o ho
  ·rw[cq,if_neg (by omega)]at ho
   rw[h o ho hgo];simp[Cx.push];omega
 |sl i g sz off len cap x hx hi hg h=>
  have hi':i<nn:=hi;refine .sl _ _ _ _ _ _ _ hx (Nat.lt_succ_of_lt hi') (fun o ho=> ?_) fun o ho hgo=> ?_
  ·rw[cq,if_neg (by omega)]at ho;exact hg o ho
  ·rw[cq,if_neg (by omega)]at ho
   have hb:(c.push nn B).β i=c.β i:=by simp[Cx.push];omega
   rw[hb];exact h o ho hgo
 |cJ i g x hx hi hg h=>
  have hi':i<nn:=hi;refine .cJ _ _ _ hx (Nat.lt_succ_of_lt hi') (fun o ho=> ?_) fun o ho hgo=> ?_
  ·rw[cq,if_neg (by omega)]at ho;exact hg o ho
  ·rw[cq,if_neg (by omega)]at ho
   rw[h o ho hgo];simp[Cx.push];omega
 |iface t v x _ ih=>exact .iface _ _ _ ih
 |agg l cs hl _ ih=>exact .agg _ _ hl ih
 |aN l cs hl _ ih=>exact .aN _ _ hl ih
 |func fn a b a' b' ha hb _ _ ih rY=>exact .func _ _ _ _ _ ha hb ih rY
theorem Gq(hF:sR (LL P n ops) ms ord TT){done r:List oE}{listed:Array Bool}{pb:Nat->Nat}{c:Cx}{h:Heap}{w:World}{e:Env}{a:Act}{j:Nat}{ag:List Nat}
  (hd:vv P Γ n ops ord k kp c0 h0 w0 ds done ((j,false,ag)::r) listed pb c h w e a): ∃e',vv P Γ n ops ord k kp c0 h0 w0 ds (done++[(j,false,ag)]) r listed pb c h w e' a:=by
 have hmem:(j,false,ag)∈ord:=by rw[hd.split];simp
 obtain⟨o,ho,hE⟩:=iN (hF.Ke _ hmem);have hag:ag=[]:=hE.again rfl;subst hag;have hnew:=Gp hF hd (b:=(j,false,[])) (by simp) ho (hE.cls rfl);have dS:=hd.cont;rw[gX _ _ _ _ _ _ _ _ _ _ _ (hF.un _ hmem)]at dS;rw[dV]at dS;have ho':(LL P n ops)[j]? =some o:=ho;rw[ho']at dS;dsimp only at dS
 replace dS:=(hU dS).1
 have Kf:=hF.pw;rw[hd.split,List.pairwise_append]at Kf
 have hR: ∀b∈done,∃ob,(LL P n ops)[b.1]? =some ob/\Ru (LL P n ops) ms b (j,false,[]) ob o:=fun b hb=>by
  obtain⟨oa,ob,h1,h2,h3⟩:=eG (Kf.2.2 b hb (j,false,[]) (by simp));have nk:(LL P n ops)[j]? =some ob:=h2;rw[ho']at nk;cases nk
  exact⟨oa,h1,h3⟩
 have fin: ∀(e1:Env) (v:SV),LN e e1->((iM e o.guard=some true/\ ∀K' eU:SV->Heap->Prop,K' v h->bw P Γ o.op e1 h K' eU)\/(iM e o.guard=some false/\v= .aN []))->ju P Γ (LL P n ops) r (nD e1 o.dst v) h k kp->
   ∃e',vv P Γ n ops ord k kp c0 h0 w0 ds (done++[(j,false,[])]) r listed pb c h w e' a:=by
  intro e1 v wj nO hc;have fU: ∀t,o.dst≠some t->Env.get (nD e1 o.dst v) t=Env.get e t:=fun t ht=>by rw[(lS e1 o.dst v t).2 ht,<-wj]
  have hread: ∀t∈o.reads,Env.get e t=Env.get (nD e1 o.dst v) t:=fun t ht=>(fU t fun dZ=>hE.self rfl t dZ ht).symm
  refine⟨_,by rw[hd.split];simp,hd.rep,hd.ext,hd.size,hd.defers,hd.lsize,hc,fun i hi=> ?_,fun i i' hi hi' hu pE=>hd.E6 i i' hi hi' (fun b hb=>hu b (by simp[hb])) (fun b hb=>pE b (by simp[hb])),fun b hb hs=> ?_,hd.closed,fun t ht Ij=> ?_,fun b hb hl ob bS=> ?_⟩
  ·rcases hd.dc i hi with⟨b,hb,he⟩|hp
   ·exact .inl ⟨b,by simp[hb],he⟩
   ·exact .inr hp
  ·rcases List.mem_append.1 hb with hb|hb
   ·exact hd.sd b hb hs
   ·simp only[List.mem_singleton]at hb;subst hb;cases hs
  ·have hne:o.dst≠some t:=ht (j,false,[]) (by simp) hnew o ho
   rw[fU t hne];refine hd.T t (fun b hb=>ht b (by simp[hb])) fun i hi hu=>Ij i hi fun b hb=> ?_
   rcases List.mem_append.1 hb with hb|hb
   ·exact hu b hb
   ·simp only[List.mem_singleton]at hb
    subst hb;intro he;have he':j=i:=he;subst he';rw[hi]at hnew;cases hnew
  ·rcases List.mem_append.1 hb with hb|hb
   ·obtain⟨R3,qp,hr⟩:=hR b hb
    rw[bS]at qp;cases qp
    refine(hd.Pd b hb hl ob bS).congr (fun t ht=>(fU t fun dZ=> ?_).symm) (fun t ht=>(fU t fun dZ=>hr.dst t ht dZ).symm);have:=(hr.ba t dZ ht).1;cases this
   ·simp only[List.mem_singleton]at hb
    subst hb;have qp:(LL P n ops)[j]? =some ob:=bS;rw[ho']at qp;cases qp
    refine⟨v,fun t ht=>by rw[(lS e1 o.dst v t).1 ht];exact .refl _,?_⟩;rw[<- nM hread];rcases nO with⟨h1,h2⟩|h1
    ·exact .inl ⟨h1,fun K' eU hk=>by rw[<- ia hread,ia (fun t _=>wj t)];exact h2 K' eU hk⟩
    ·exact .inr h1
 rcases jy dS with⟨hw,e1,wj,hp⟩|⟨hw,e1,wj,hp⟩
 ·obtain⟨v,hv,R8⟩:=tX (hE.cls rfl) hp
  rw[fS]at hv;exact fin e1 v wj (.inl ⟨hw,R8⟩) hv
 ·rw[fS]at hp
  exact fin e1 _ wj (.inr ⟨hw,rfl⟩) hp
theorem Gr(fF:Γ.Ok P)(hF:sR (LL P n ops) ms ord TT){done r:List oE}{listed:Array Bool}{pb:Nat->Nat}{c:Cx}{h:Heap}{w:World}{e:Env}{a:Act}{j:Nat}{ag:List Nat}(hl:listed.getD j false=true)
  (hd:vv P Γ n ops ord k kp c0 h0 w0 ds done ((j,true,ag)::r) listed pb c h w e a): ∃c' h' e',vv P Γ n ops ord k kp c0 h0 w0 ds (done++[(j,true,ag)]) r listed pb c' h' w e' a:=by
 have hmem:(j,true,ag)∈ord:=by rw[hd.split];simp
 obtain⟨o,ho,hE⟩:=iN (hF.Ke _ hmem);have hun:dH done j:=kX hF hd.split (b:=(j,true,ag)) (by simp);rcases hd.dc j hl with⟨b,hb,he⟩|so
 ·exact absurd he (hun b hb)
 obtain⟨⟨o2,t,nc,dZ,hgd,hm⟩,hge,hlt,hnn,hni⟩:=so;have ho':(LL P n ops)[j]? =some o:=ho;rw[ho']at nc;obtain rfl:=Option.some.inj nc;have sS:=tY hF hd.closed hl ho';have Kf:=hF.pw;rw[hd.split,List.pairwise_append]at Kf
 have hR: ∀b∈done,∃ob,(LL P n ops)[b.1]? =some ob/\Ru (LL P n ops) ms b (j,true,ag) ob o:=fun b hb=>by
  obtain⟨oa,ob,h1,h2,h3⟩:=eG (Kf.2.2 b hb (j,true,ag) (by simp));have nk:(LL P n ops)[j]? =some ob:=h2;rw[ho']at nk;cases nk
  exact⟨oa,h1,h3⟩
 have dS:=hd.cont;rw[gX _ _ _ _ _ _ _ _ _ _ _ (hF.un _ hmem)]at dS;rw[dV]at dS;rw[ho']at dS;dsimp only at dS
 replace dS:=(hU dS).1
 rw[hgd]at dS;dsimp only[fh]at dS;obtain⟨nn,l⟩:=h
 have VB: ∀t'∈o.reads,VR c ⟨nn,l⟩ w (Env.get e t') (a.tmps.getD t' undef):=fun t' ht'=>by
  refine hd.T t' (fun b hb hl' o' tf ku=> ?_) fun p hp sB op hop ku=> ?_
  ·obtain⟨ob,bS,hr⟩:=hR b hb
   rw[tf]at bS;cases bS
   rw[sS _ (hr.ab t' ku ht')]at hl';cases hl'
  ·have h1:=hm.nr hop ku ht'
   rcases hd.dc p hp with⟨b,hb,he⟩|LQ
   ·exact absurd he (sB b hb)
   ·obtain⟨o3,t3,Kg,_,_,Pg⟩:=LQ.ex
    rw[hop]at Kg;cases Kg
    rcases Pg.LU with h|h
    ·rw[h1.1]at h;cases h
    ·rw[h1.2]at h;cases h
 obtain⟨sz,elems,ty,C,V,hw,hlr,dS,VC⟩:=hm.R6 VB dS;rw[dZ]at dS;rw[fS]at dS;obtain⟨hc,hag⟩:=ic fF (fun q hq oi LS=>hE.ag q hq oi LS) dS;have Rw: ∀ {v':SV} {x:Value},VR c ⟨nn,l⟩ w v' x->VR (c.push nn (pb j)) ⟨nn+1,(nn,.vec 0 sz elems ⟨false,some ty⟩)::l⟩ w v' x:=fun hv=>hv.name _ _
 have kR: ∀i,i≠nn->(c.push nn (pb j)).β i=c.β i:=fun i hi=>by simp[Cx.push,hi]
 have oF:(c.push nn (pb j)).β nn=pb j:=by simp[Cx.push]
 have gS: ∀b o',OR c ⟨nn,l⟩ w b o'->OR (c.push nn (pb j)) ⟨nn+1,(nn,.vec 0 sz elems ⟨false,some ty⟩)::l⟩ w b o':=by
  intro b o' ho';cases ho' with
  |vec g sz' elems sk C ty fz hw hle heq hty hc hf hcell=>exact .vec g sz' elems sk C ty fz hw hle heq hty hc hf fun i j e v x h1 h2 h3=>Rw (hcell i j e v x h1 h2 h3)
  |iter s pos hw=>exact .iter s pos hw
  |map es cl hw hs=>exact .map es cl hw hs
  |bU m since seen stepped r hw hm=>exact .bU m since seen stepped r hw (Rw hm)
  |js g ty xs C fz hw hle hc=>exact .js g ty xs C fz hw hle hc
 have R9: ∀i o',aG l i=some o'->i<nn:=fun i o' ho'=>hd.rep.lt i o' ho'
 have BO:bP (c.push nn (pb j)) ⟨nn+1,(nn,.vec 0 sz elems ⟨false,some ty⟩)::l⟩ w:=by
  refine⟨fun i o' ho'=> ?_,fun i o' ho'=> ?_,fun i i' o' p' ho' hp' he=> ?_,fun i o' ho'=> ?_,hd.rep.im,hd.rep.cV⟩
  ·rw[cq]at ho'
   by_cases hi:nn=i
   ·subst hi;exact Nat.lt_succ_self _
   ·rw[if_neg hi]at ho';exact Nat.lt_succ_of_lt (R9 i o' ho')
  ·rw[cq]at ho'
   by_cases hi:nn=i
   ·subst hi
    rw[if_pos rfl]at ho';cases ho'
    rw[oF];exact .vec 0 sz elems ⟨false,some ty⟩ C ty (0,0) hw (by rw[hlr.1];exact Nat.le_refl _) (fun _=>hlr.1.symm) (fun _ h=>(Option.some.inj h).symm) hlr.2.1 (by simp) fun i j' e' u x he hu hx=>Rw (hlr.2.2 i j' e' u x he hu hx)
   ·rw[if_neg hi]at ho'
    rw[kR i (fun e=>hi e.symm)];exact gS _ _ (hd.rep.obj i o' ho')
  ·rw[cq]at ho' hp'
   by_cases hi:nn=i
   ·by_cases hi':nn=i'
    ·omega
    ·rw[if_neg hi']at hp'
     rw[<- hi,oF,kR i' (fun e=>hi' e.symm)]at he;exact absurd he.symm (hnn i' p' hp')
   ·rw[if_neg hi]at ho'
    by_cases hi':nn=i'
    ·rw[<- hi',oF,kR i (fun e=>hi e.symm)]at he
     exact absurd he (hnn i o' ho')
    ·rw[if_neg hi']at hp'
     rw[kR i (fun e=>hi e.symm),kR i' (fun e=>hi' e.symm)]at he;exact hd.rep.inj i i' o' p' ho' hp' he
  ·rw[cq]at ho'
   by_cases hi:nn=i
   ·rw[<- hi,oF];exact hni
   ·rw[if_neg hi]at ho'
    rw[kR i (fun e=>hi e.symm)];exact hd.rep.apart i o' ho'
 have ng:Ext c0 h0 w0 (c.push nn (pb j)) ⟨nn+1,(nn,.vec 0 sz elems ⟨false,some ty⟩)::l⟩ w:=by
  have hx:=hd.ext;refine⟨hx.os,hx.tape,hx.output,hx.size,hx.frame,hx.shape,hx.im,hx.im',Nat.le_succ_of_le hx.dA,fun i o' hi ho'=> ?_,fun i o' ho'=> ?_⟩
  ·have X5:h0.dA<=nn:=hx.dA
   rw[cq,if_neg (by omega)]at ho';obtain⟨o2,h1,h2,h3,h4⟩:=hx.old i o' hi ho';exact⟨o2,h1,h2,h3,fun e=>by rw[kR i (by omega)];exact h4 e⟩
  ·rw[cq]at ho'
   by_cases hi:nn=i
   ·left;rw[<- hi,oF];exact hge
   ·rw[if_neg hi]at ho'
    rw[kR i (fun e=>hi e.symm)];exact hx.new i o' ho'
 have fU: ∀t',t≠t'->Env.get (nD e (some t) V) t'=Env.get e t':=fun t' ht=>(lS e (some t) _ t').2 (fun e=>ht (Option.some.inj e))
 refine⟨_,_,_,by rw[hd.split];simp,BO,ng,hd.size,hd.defers,hd.lsize,hc,fun i hi=> ?_,fun i i' hi hi' hu pE=>hd.E6 i i' hi hi' (fun b hb=>hu b (by simp[hb])) (fun b hb=>pE b (by simp[hb])),fun b hb hs=> ?_,hd.closed,fun t' ht Ij=> ?_,fun b hb hl' ob bS=> ?_⟩
 ·by_cases hex: ∃b∈done,b.1=i
  ·obtain⟨b,hb,he⟩:=hex
   exact .inl ⟨b,by simp[hb],he⟩
  ·have Rx:dH done i:=fun b hb he=>hex ⟨b,hb,he⟩
   by_cases hij:i=j
   ·exact .inl ⟨(j,true,ag),by simp,hij.symm⟩
   ·rcases hd.dc i hi with h1|hp
    ·exact absurd h1 hex
    ·refine .inr ⟨hp.ex,hp.ge,hp.lt,fun q o' ho'=> ?_,hp.Pf⟩
     rw[cq]at ho';by_cases hq:nn=q
     ·rw[<- hq,oF]
      intro he;exact hij (hd.E6 i j hi hl Rx hun he.symm)
     ·rw[if_neg hq]at ho'
      rw[kR q (fun e=>hq e.symm)];exact hp.Gn q o' ho'
 ·rcases List.mem_append.1 hb with hb|hb
  ·exact hd.sd b hb hs
  ·simp only[List.mem_singleton]at hb;subst hb;exact hl
 ·by_cases Sb:t=t'
  ·subst Sb
   rw[(lS e (some t) V t).1 rfl];exact VC
  ·rw[fU t' Sb]
   refine Rw (hd.T t' (fun b hb=>ht b (by simp[hb])) fun i hi hu o3 Sc=> ?_);by_cases hij:i=j
   ·rw[hij,ho']at Sc
    cases Sc
    rw[dZ];exact fun e=>Sb (Option.some.inj e)
   ·refine Ij i hi (fun b hb=> ?_) o3 Sc
    rcases List.mem_append.1 hb with hb|hb
    ·exact hu b hb
    ·simp only[List.mem_singleton]at hb;subst hb
     exact fun e=>hij e.symm
 ·rcases List.mem_append.1 hb with h|h
  ·obtain⟨R3,qp,hr⟩:=hR b h
   rw[bS]at qp;cases qp
   have hold:j0 P Γ ob (nD e (some t) V) ⟨nn,l⟩:=(hd.Pd b h hl' ob bS).congr (fun t' ht=>(fU t' fun ku=>by
    have:=(hr.ba t (by rw[dZ]) (ku▸ht)).2;rw[sS _ this]at hl';cases hl').symm) fun t' ht=>(fU t' fun ku=>hr.dst t' ht (by rw[dZ,ku])).symm
   have hns:b.2.1=false:=by
    cases hs:b.2.1 with
    |false=>rfl
    |true=>rw[hd.sd b h hs]at hl';cases hl'
   rcases hr.rd hns rfl with h1|h1|h1
   ·rw[sS _ h1]at hl';cases hl'
   ·exact hold.heap h1
   ·obtain⟨v',q1,q2⟩:=hold
    rcases q2 with⟨q2,_⟩|q2
    ·obtain⟨VD,Gs,Sd⟩:=iN (hF.Ke b (by rw[hd.split];simp[h]))
     rw[bS]at Gs;cases Gs
     exact hag _ h1 ob bS (Sd.cls hns) q2
    ·exact⟨v',q1,.inr q2⟩
  ·simp only[List.mem_singleton]at h;subst h
   have vV:listed.getD j false=false:=hl';rw[hl]at vV;cases vV
theorem advance(fF:Γ.Ok P)(hF:sR (LL P n ops) ms ord TT): ∀(rest done:List oE) {listed:Array Bool} {pb:Nat->Nat} {c:Cx} {h:Heap} {w:World} {e:Env} {a:Act},vv P Γ n ops ord k kp c0 h0 w0 ds done rest listed pb c h w e a->
  ∃done' rest' c' h' e',vv P Γ n ops ord k kp c0 h0 w0 ds done' rest' listed pb c' h' w e' a/\(rest'=[]\/ ∃j ag r,rest'=(j,true,ag)::r/\listed.getD j false=false)
 | [],done,listed,pb,c,h,w,e,a,hd=>⟨done,[],c,h,e,hd,.inl rfl⟩
 |(j,true,ag)::r,done,listed,pb,c,h,w,e,a,hd=>by
  cases hl:listed.getD j false with
  |false=>exact⟨done,_,c,h,e,hd,.inr ⟨j,ag,r,rfl,hl⟩⟩
  |true=>
   obtain⟨c',h',e',hd'⟩:=Gr fF hF hl hd;exact advance fF hF r _ hd'
 |(j,false,ag)::r,done,listed,pb,c,h,w,e,a,hd=>by
  obtain⟨e',hd'⟩:=Gq hF hd;exact advance fF hF r _ hd'
end
theorem j3(listed:Array Bool)(i j:Nat)(hi:i<listed.size):(listed.setIfInBounds i true).getD j false=if j=i then true else listed.getD j false:=by
 rw[Array.getD_eq_getD_getElem?,Array.getElem?_setIfInBounds];by_cases h:j=i
 ·subst h;simp[hi]
 ·rw[if_neg (fun e=>h e.symm),if_neg h,Array.getD_eq_getD_getElem?]
def FP(n:Nat)(listed:Array Bool):Nat:=((List.range n).filter fun i=> !listed.getD i false).length
theorem zG{n:Nat}{listed:Array Bool}(h:FP n listed=0): ∀i,i<n->listed.getD i false=true:=by
 intro i hi;unfold FP at h;have:=List.eq_nil_of_length_eq_zero h;rw[List.filter_eq_nil_iff]at this;have:=this i (List.mem_range.2 hi);simpa using this
theorem filter_lt{α:Type}(p q:α->Bool): ∀(l:List α),(∀ x∈l,q x=true->p x=true)->(∃ x∈l,p x=true/\q x=false)->(l.filter q).length<(l.filter p).length
 | [],_,⟨x,hx,_⟩=>by cases hx
 |y::r,hpq,⟨x,hx,hpx,Um⟩=>by
  have hle: ∀l:List α,(∀ x∈l,q x=true->p x=true)->(l.filter q).length<=(l.filter p).length:=by
   intro l
   induction l with
   |nil=>intro _;simp
   |cons z l ih=>
    intro hl;have:=ih fun x hx=>hl x (by simp[hx])
    simp only[List.filter_cons];cases hq:q z
    ·cases hp:p z<;>simp<;>omega
    ·rw[hl z (by simp) hq];simp;omega
  rcases List.mem_cons.1 hx with rfl|hx'
  ·simp only[List.filter_cons,hpx,Um]
   have:=hle r fun x hx=>hpq x (by simp[hx])
   simp;omega
  ·have ih:=filter_lt p q r (fun x hx=>hpq x (by simp[hx])) ⟨x,hx',hpx,Um⟩
   simp only[List.filter_cons];cases hq:q y
   ·cases hp:p y<;>simp<;>omega
   ·rw[hpq y (by simp) hq];simp;omega
theorem DQ{n:Nat}{listed:Array Bool}{i:Nat}(hi:i<n)(hs:i<listed.size)(hl:listed.getD i false=false):FP n (listed.setIfInBounds i true)<FP n listed:=by
 unfold FP;refine filter_lt _ _ _ (fun j _ hj=> ?_) ⟨i,List.mem_range.2 hi,by simpa using hl,by rw[j3 _ _ _ hs];simp⟩;rw[j3 _ _ _ hs]at hj;by_cases h:j=i
 ·subst h;simp at hj
 ·rw[if_neg h]at hj;exact hj
theorem rE{P:Program}{n:Nat}{ops:Array Oper}{i:Nat}(hi:i<ops.size):(LL P n ops)[i]? =some (bt P n ops true ops[i]):=by
 simp[LL,hi]
theorem tZ{P:Program}{n:Nat}{ops:Array Oper}:(LL P n ops).length=ops.size:=by simp[LL]
theorem zH(e:Edge):iF e=Region.binds .any e:=by
 unfold iF Region.binds;cases e.ground<;>rfl
section
variable {P:Program} {Γ:bH} {n:Nat} {ops:Array Oper} {ord:List oE} {TT:List Nat} {ms:List Nat} {k:Env->Heap->Prop} {kp:SV->Env->Heap->Prop} {Q:Exit->Act->World->Prop} {c0:Cx} {h0:Heap} {w0:World} {ds:List Deferred}
theorem j4{listed:Array Bool}{i:Nat}(hs:listed.size=ops.size)(hi:i∈Region.ready .any ops listed): ∃hlt:i<ops.size,listed.getD i false=false/\ ∀e∈(ops[i]).after.toList,iF e=true->listed.getD e.on false=true:=by
 unfold Region.ready at hi;obtain⟨h1,h2⟩:=List.mem_filter.1 hi;have hlt:=List.mem_range.1 h1;refine⟨hlt,?_⟩;simp only[Bool.and_eq_true,Bool.not_eq_true']at h2;have hlt':i<listed.size:=by omega
 have e1: ∀d,listed.getD i d=listed[i]:=fun d=>by simp[Array.getD_eq_getD_getElem?,hlt']
 refine⟨by rw[e1];rw[e1]at h2;exact h2.1,fun e he hb=> ?_⟩;have h3:=h2.2;rw[Array.getElem?_eq_getElem hlt]at h3;simp only[Option.map_some,Option.getD_some]at h3;rw[<- Array.all_toList]at h3;have:=List.all_eq_true.1 h3 e he;rw[<- zH,hb]at this;simpa using this
theorem pF(hF:sR (LL P n ops) ms ord TT){listed:Array Bool}(hs:listed.size=ops.size)(hr:Region.ready .any ops listed=[]): ∀(m i:Nat),i<m->i<ops.size->listed.getD i false=true
 |0,i,h,_=>by omega
 |m+1,i,h,hi=>by
  cases hl:listed.getD i false with
  |true=>rfl
  |false=>
   exfalso
   have hmem:i∈Region.ready .any ops listed:=by
    unfold Region.ready;refine List.mem_filter.2 ⟨List.mem_range.2 hi,?_⟩;have hlt':i<listed.size:=by omega
    have e1: ∀d,listed.getD i d=listed[i]:=fun d=>by simp[Array.getD_eq_getD_getElem?,hlt']
    rw[e1]at hl;simp only[e1,hl,Bool.not_false,Bool.true_and];rw[Array.getElem?_eq_getElem hi];simp only[Option.map_some,Option.getD_some];rw[<- Array.all_toList];refine List.all_eq_true.2 fun e he=> ?_
    cases hb:Region.binds .any e with
    |false=>rfl
    |true=>
     have Ph:(bt P n ops true ops[i]).op.oM=false:=by
      rcases hF.all i (by rw[tZ];exact hi)with⟨b,zI,rF⟩|hT
      ·obtain⟨o,ho,hE⟩:=iN (hF.Ke b zI)
       rw[rF,rE hi]at ho;cases ho
       exact hE.good
      ·obtain⟨o,ho,hg,_⟩:=hF.tail i hT
       rw[rE hi]at ho;cases ho
       exact hg
     obtain⟨_,_,_,hpre,_⟩:=lR Ph
     have VE:e.on∈(bt P n ops true ops[i]).pre:=by
      rw[hpre];exact List.mem_filterMap.2 ⟨e,he,by rw[zH,hb];rfl⟩
     have hlt:=(hF.mask i _ (rE hi)).2 _ VE;have:=pF hF hs hr m e.on (by omega) (by omega);simpa using this
   rw[hr]at hmem;cases hmem
theorem Pj(fF:Γ.Ok P)(hF:sR (LL P n ops) ms ord TT)
  (hK: ∀(fuel:Nat) (listed:Array Bool) (e:Env) (h:Heap) (c:Cx) (a:Act) (w:World),FP ops.size listed<=fuel->listed.size=ops.size->(∀ i,i<ops.size->i∉TT->listed.getD i false=true)->(∀ i∈TT,listed.getD i false=false)->
   k e h->bP c h w->Ext c0 h0 w0 c h w->ER c h w e a.tmps->a.tmps.size=n->a.defers=ds->wpAny P .any ops Q fuel listed a w)
  (Se: ∀v x h c a w,kp v [] h->bP c h w->Ext c0 h0 w0 c h w->a.tmps.size=n->a.defers=ds->VR c h w v x->Q (.panic [{v:=x,recovered:=false}]) a w)(Bf:bP c0 h0 w0):
  ∀(fuel:Nat) (done rest:List oE) (listed:Array Bool) (pb:Nat->Nat) (c:Cx) (h:Heap) (w:World) (e:Env) (a:Act),(∀ i∈TT,listed.getD i false=false)->FP ops.size listed<=fuel->vv P Γ n ops ord k kp c0 h0 w0 ds done rest listed pb c h w e a->wpAny P .any ops Q fuel listed a w:=by
 have Kh: ∀b∈ord,b.1<ops.size:=fun b hb=>by
  obtain⟨o,ho,_⟩:=iN (hF.Ke b hb);rcases Nat.lt_or_ge b.1 (LL P n ops).length with h|h
  ·rw[tZ]at h;exact h
  ·rw[List.getElem?_eq_none h]at ho;cases ho
 have Ki: ∀b∈ord,b.1∉TT:=fun b hb hT=>by
  obtain⟨o,ho,_,_,h2⟩:=hF.tail _ hT;have h3:=h2 b hb;have:=DP hF (b.1+1) b.1 (Nat.lt_succ_self _) ho b.1 h3;omega
 have hend: ∀(fuel:Nat) (done rest:List oE) (listed:Array Bool) (pb:Nat->Nat) (c:Cx) (h:Heap) (w:World) (e:Env) (a:Act),(∀ i,i<ops.size->i∉TT->listed.getD i false=true)->(∀ i∈TT,listed.getD i false=false)->FP ops.size listed<=fuel->vv P Γ n ops ord k kp c0 h0 w0 ds done rest listed pb c h w e a->wpAny P .any ops Q fuel listed a w:=by
  intro fuel done rest listed pb c h w e a hall Ik hu hd;obtain⟨done',rest',c',h',e',hd',gS⟩:=advance fF hF rest done hd
  have vm:rest'=[]:=by
   rcases gS with h|⟨j,ag,r,rfl,h1⟩
   ·exact h
   ·have BP:(j,true,ag)∈ord:=by rw[hd'.split];simp
    have h2:=hall j (Kh _ BP) (Ki _ BP);rw[h2]at h1;cases h1
  subst vm;have hc:=hd'.cont
  exact hK fuel listed e' h' c' a w hu hd'.lsize hall Ik hc hd'.rep hd'.ext (fun t=>hd'.T t (fun b hb hl=>by
   have zI:b∈ord:=by rw[hd'.split];simp[hb]
   have:=hall b.1 (Kh b zI) (Ki b zI);rw[this]at hl;cases hl) fun i hi hu o ho=>by
   have hil:i<(LL P n ops).length:=by
    rcases Nat.lt_or_ge i (LL P n ops).length with h|h
    ·exact h
    ·rw[List.getElem?_eq_none h]at ho;cases ho
   rcases hF.all i hil with⟨b,hb,he⟩|hT
   ·rw[hd'.split,List.append_nil]at hb
    exact absurd he (hu b hb)
   ·rw[Ik i hT]at hi;cases hi) hd'.size hd'.defers
 intro fuel
 induction fuel with
 |zero=>
  intro done rest listed pb c h w e a Ik hu hd;have hall:=zG (Nat.le_zero.1 hu);exact hend 0 done rest listed pb c h w e a (fun i hi _=>hall i hi) Ik hu hd
 |succ fuel ih=>
  intro done rest listed pb c h w e a Ik hu hd;by_cases Gt: ∀i,i<ops.size->i∉TT->listed.getD i false=true
  ·exact hend (fuel+1) done rest listed pb c h w e a Gt Ik hu hd
  refine⟨fun hr=>absurd (fun i hi _=>pF hF hd.lsize hr (i+1) i (Nat.lt_succ_self _) hi) Gt,fun i hi=> ?_⟩;obtain⟨hlt,hl,hpre⟩:=j4 hd.lsize hi;obtain⟨done',rest',c1,h1,e',hd',gS⟩:=advance fF hF rest done hd;clear hd;clear c h;revert hd';generalize vW:c1=c;generalize VF:h1=h;intro hd';clear vW VF c1 h1;have nc:=rE (P:=P) (n:=n) hlt
  have Un:i∉TT:=fun hT=>Gt fun j hj VG=>by
   obtain⟨o,ho,hg,_,sS⟩:=hF.tail i hT;rw[rE hlt]at ho;cases ho
   obtain⟨_,_,_,E7,_⟩:=lR hg
   have DS: ∀j∈(bt P n ops true ops[i]).pre,listed.getD j false=true:=fun j hj=>by
    rw[E7]at hj;obtain⟨ed,Pk,vu⟩:=List.mem_filterMap.1 hj;cases hbd:iF ed
    ·rw[hbd]at vu;cases vu
    ·rw[hbd]at vu
     simp only[cond_true,Option.some.injEq]at vu;rw[<- vu];exact hpre ed Pk hbd
   rcases hF.all j (by rw[tZ];exact hj)with⟨b,hb,rfl⟩|h
   ·exact mE hF hd'.closed (i+1) i _ (Nat.lt_succ_self _) nc DS _ (sS b hb)
   ·exact absurd h VG
  obtain⟨b,zI,rF⟩:=(hF.all i (by rw[tZ];exact hlt)).resolve_right Un
  have LX: ∀j∈TT,(listed.setIfInBounds i true).getD j false=false:=fun j hj=>by
   rw[j3 listed i j (by rw[hd'.lsize];exact hlt),if_neg (show ¬j=i from fun he=>Un (by rw[<- he];exact hj))];exact Ik j hj
  obtain⟨o,ho,hE⟩:=iN (hF.Ke b zI);rw[rF,nc]at ho;cases ho
  obtain⟨dZ,hop,LY,E7,_⟩:=lR hE.good
  have DS: ∀j∈(bt P n ops true ops[i]).pre,listed.getD j false=true:=fun j hj=>by
   rw[E7]at hj;obtain⟨ed,Pk,vu⟩:=List.mem_filterMap.1 hj;cases hbd:iF ed
   ·rw[hbd]at vu;cases vu
   ·rw[hbd]at vu
    simp only[cond_true,Option.some.injEq]at vu;rw[<- vu];exact hpre ed Pk hbd
  have sS: ∀q,Nat.testBit (ms.getD i 0) q=true->listed.getD q false=true:=mE hF hd'.closed (i+1) i _ (Nat.lt_succ_self _) nc DS;have hil:i<listed.size:=by rw[hd'.lsize];exact hlt
  have pE:FP ops.size (listed.setIfInBounds i true)<=fuel:=by
   have:=DQ hlt hil hl;omega
  have fU:=fun j=>j3 listed i j hil
  have hmono: ∀j,listed.getD j false=true->(listed.setIfInBounds i true).getD j false=true:=fun j hj=>by rw[fU];split<;>simp[hj]
  have hun: ∀j,(listed.setIfInBounds i true).getD j false=false->listed.getD j false=false/\j≠i:=fun j hj=>by
   rw[fU]at hj;by_cases h:j=i
   ·rw[if_pos h]at hj;cases hj
   ·rw[if_neg h]at hj;exact⟨hj,h⟩
  have hclosed: ∀j,(listed.setIfInBounds i true).getD j false=true-> ∀o,(LL P n ops)[j]? =some o-> ∀q∈o.pre,(listed.setIfInBounds i true).getD q false=true:=by
   intro j hj o ho q hq;rw[fU]at hj;by_cases h:j=i
   ·subst h;rw[nc]at ho;cases ho;exact hmono q (DS q hq)
   ·rw[if_neg h]at hj;exact hmono q (hd'.closed j hj o ho q hq)
  have hls:(listed.setIfInBounds i true).size=ops.size:=by simp[hd'.lsize]
  have hput: ∀x t,(a.put ops[i].dst x).tmps.getD t undef=if ops[i].dst=some t then x else a.tmps.getD t undef:=by
   intro x t;cases ku:ops[i].dst with
   |none=>simp[Act.put]
   |some d=>
    simp only[Act.put,Array.getD_eq_getD_getElem?,Array.getElem?_setIfInBounds,Option.some.injEq];by_cases h:d=t
    ·subst h
     have hd1:d<a.tmps.size:=by rw[hd'.size];exact LY d ku
     simp[hd1]
    ·simp[h]
  have vw:=hF.pw;rw[hd'.split,List.pairwise_append]at vw
  have ua: ∀p,listed.getD p false=true->dH done' p-> ∀o,(LL P n ops)[p]? =some o-> ∃bp,bp∈rest'/\bp.1=p/\ ∀q,Nat.testBit (ms.getD p 0) q=true->listed.getD q false=true:=by
   intro p hp sB o ho
   have IA:p<(LL P n ops).length:=by
    rcases Nat.lt_or_ge p (LL P n ops).length with h|h
    ·exact h
    ·rw[List.getElem?_eq_none h]at ho;cases ho
   obtain⟨bp,FQ,Pm⟩:=(hF.all p IA).resolve_right (fun hT=>by rw[Ik p hT]at hp;cases hp);rw[hd'.split]at FQ;rcases List.mem_append.1 FQ with h|h
   ·exact absurd Pm (sB bp h)
   ·exact⟨bp,h,Pm,tY hF hd'.closed hp ho⟩
  by_cases hin:b∈done'
  ·
   have hst:b.2.1=false:=by
    cases hs:b.2.1 with
    |false=>rfl
    |true=>
     have:=hd'.sd b hin hs;rw[rF,hl]at this;cases this
   obtain⟨v,hv1,Sf⟩:=hd'.Pd b hin (by rw[rF];exact hl) _ (by rw[rF];exact nc)
   have hT: ∀t∈(bt P n ops true ops[i]).reads,VR c h w (Env.get e' t) (a.tmps.getD t undef):=by
    intro t ht
    refine hd'.T t (fun b' hb' hl' o' ho' ku=> ?_) fun p hp sB op zJ ku=>by
     obtain⟨bp,FQ,nP,hpa⟩:=ua p hp sB op zJ;obtain⟨oa,ob,h1,h2,hr⟩:=eG (vw.2.2 b hin bp FQ);rw[rF,nc]at h1;cases h1
     rw[nP,zJ]at h2;cases h2
     have:=(hr.ba t ku ht).2;rw[nP,rF]at this;rw[hpa _ this]at hl;cases hl
    rcases nN vw.1 b' hb' b hin with rfl|hR|hR
    ·rw[rF,nc]at ho';cases ho'
     exact hE.self hst t ku ht
    ·obtain⟨oa,ob,h1,h2,hr⟩:=eG hR
     rw[ho']at h1;cases h1
     rw[rF,nc]at h2;cases h2
     have:=hr.ab t ku ht;rw[rF]at this;rw[sS _ this]at hl';cases hl'
    ·obtain⟨oa,ob,h1,h2,hr⟩:=eG hR
     rw[ho']at h2;cases h2
     rw[rF,nc]at h1;cases h1
     have:=(hr.ba t ku ht).1;rw[hd'.sd b' hb' this]at hl';cases hl'
   have Pn: ∀p,listed.getD p false=true->dH done' p-> ∀o t,(LL P n ops)[p]? =some o->o.dst=some t\/t∈o.reads->ops[i].dst≠some t:=by
    intro p hp sB o t ho wk hit;obtain⟨bp,FQ,nP,hpa⟩:=ua p hp sB o ho;obtain⟨oa,ob,h1,h2,hr⟩:=eG (vw.2.2 b hin bp FQ);rw[rF,nc]at h1;cases h1
    rw[nP,ho]at h2;cases h2
    rcases wk with wk|wk
    ·exact hr.dst t (by rw[dZ];exact hit) wk
    ·have:=hr.ab t (by rw[dZ];exact hit) wk
     rw[nP,rF]at this;rw[hpa _ this]at hl;cases hl
   have hdc: ∀(x:Value) (c':Cx) (w':World),Ext c h w c' h w'-> ∀j,(listed.setIfInBounds i true).getD j false=true->(∃ b∈done',b.1=j)\/rD P n ops w0 pb c' h w' (a.put ops[i].dst x) j:=fun x c' w' hx' j hj=>by
    rw[fU]at hj;by_cases h:j=i
    ·exact .inl ⟨b,hin,by rw[rF,h]⟩
    ·rw[if_neg h]at hj
     by_cases hex: ∃b∈done',b.1=j
     ·exact .inl hex
     ·have VH:dH done' j:=fun b hb he=>hex ⟨b,hb,he⟩
      refine .inr (((hd'.dc j hj).resolve_left hex).mono hx' fun o t ho wk=> ?_);rw[hput,if_neg (Pn j hj VH o t ho wk)]
   have Gu: ∀p q,(listed.setIfInBounds i true).getD p false=true->(listed.setIfInBounds i true).getD q false=true->dH done' p->dH done' q->pb p=pb q->p=q:=by
    intro p q hp hq sB DT he;have hpi:p≠i:=fun h=>sB b hin (by rw[rF,h])
    have tg:q≠i:=fun h=>DT b hin (by rw[rF,h])
    rw[fU,if_neg hpi]at hp;rw[fU,if_neg tg]at hq;exact hd'.E6 p q hp hq sB DT he
   have fin: ∀(x:Value) (c':Cx) (w':World),bP c' h w'->Ext c h w c' h w'->(∀ t,ops[i].dst=some t->VR c' h w' (Env.get e' t) x)->wpAny P .any ops Q fuel (listed.setIfInBounds i true) (a.put ops[i].dst x) w':=by
    intro x c' w' hr' hx' VI;refine ih done' rest' _ pb c' h w' e' _ LX pE ⟨hd'.split,hr',hd'.ext.trans Bf hx',by rw[iL];exact hd'.size,by rw[put_defers];exact hd'.defers,hls,hd'.cont,hdc x c' w' hx',Gu,fun b' hb' hs=>hmono _ (hd'.sd b' hb' hs),hclosed,fun t ht Ij=> ?_,fun b' hb' hl' o' ho'=>hd'.Pd b' hb' (hun _ hl').1 o' ho'⟩;rw[hput];by_cases hdt:ops[i].dst=some t
    ·rw[if_pos hdt];exact VI t hdt
    ·rw[if_neg hdt]
     refine(hd'.T t (fun b' hb' hl' o' ho'=> ?_) fun p hp sB=>Ij p (hmono p hp) sB).mono hd'.rep hx';by_cases Uo:b'.1=i
     ·rw[Uo,nc]at ho';cases ho'
      rw[dZ];exact hdt
     ·exact ht b' hb' (by rw[fU,if_neg Uo];exact hl') o' ho'
   rcases Sf with⟨hw,Sf⟩|⟨hw,rfl⟩
   ·refine om fF (b:=true) (Array.getElem?_eq_getElem hlt) hE.good hd'.rep hT hd'.size hw (k:=fun v' h'=>v'=v/\h'=h) (kp:=fun _ _=>False) (fun _=>Sf _ _ ⟨rfl,rfl⟩) (fun _ v' x h' c' w' hk hr' hx' mB=> ?_) (fun _ v' x h' c' w' hk=>hk.elim) (fun hf=>by cases hf)
    obtain⟨rfl,rfl⟩:=hk;exact fin x c' w' hr' hx' fun t ht=>(hv1 t (by rw[dZ];exact ht)).vr mB
   ·refine om fF (b:=false) (Array.getElem?_eq_getElem hlt) hE.good hd'.rep hT hd'.size hw (k:=fun _ _=>False) (kp:=fun _ _=>False) (fun hf=>by cases hf) (fun hf=>by cases hf) (fun hf=>by cases hf) (fun _=> ?_)
    exact fin _ c w hd'.rep .refl fun t ht=>(hv1 t (by rw[dZ];exact ht)).vr <| .pure (.aN _ _ rfl fun i v x hv=>by simp at hv)
  ·
   have vf:b∈rest':=by
    rw[hd'.split]at zI;rcases List.mem_append.1 zI with h|h
    ·exact absurd h hin
    ·exact h
   rcases gS with rfl|⟨j,ag,r,rfl,Up⟩
   ·cases vf
   have nO:b=(j,true,ag)\/FO (bt P n ops true ops[i])=true\/(s9 (bt P n ops true ops[i])=true/\i∈ag):=by
    rcases List.mem_cons.1 vf with h|h
    ·exact .inl h
    ·right
     obtain⟨oa,ob,h1,h2,hr⟩:=eG ((List.pairwise_cons.1 vw.2.1).1 b h);rw[rF,nc]at h2;cases h2
     rcases hr.st rfl with h3|h3
     ·rw[rF]at h3
      have h4:listed.getD j false=true:=sS _ h3;rw[h4]at Up;cases Up
     ·rw[rF]at h3;exact h3
   have Rx:dH done' i:=fun b' hb' he=>by
    have:=kX hF hd'.split vf b' hb';rw[rF]at this;exact this he
   by_cases Uq:b=(j,true,ag)
   case neg=>
    have Sg:=nO.resolve_left Uq
    have hgd:(bt P n ops true ops[i]).guard=none:=by
     rcases Sg with h1|h1
     ·obtain⟨t,ty,sz,v,pre,FR,_⟩:=xM h1
      rw[FR]
     ·obtain⟨t,ty,sz,z,m,ps,pre,FR⟩:=td h1.1
      rw[FR]
    have Sh:ops[i].guard=none:=by
     obtain⟨_,_,_,_,hg⟩:=lR hE.good;cases hgo:ops[i].guard with
     |none=>rfl
     |some gw=>
      obtain⟨q,want⟩:=gw;rw[hgo]at hg;obtain⟨t',_,_,hg⟩:=hg;rw[hgd]at hg;cases hg
    obtain⟨t,x,C,ty,ku,hrun,Po⟩: ∃t x C ty,ops[i].dst=some t/\(execOp a.eval ops[i]).run P w= .ok (.value x) (w.alloc (.cells C ty))/\Made (LL P n ops) (bt P n ops true ops[i]) t w.heap.size (w.alloc (.cells C ty)) (a.put ops[i].dst x):=by
     rcases Sg with h1|⟨h1,h2⟩
     ·obtain⟨t,ty,sz,v,pre,FR,hvl,R7⟩:=xM h1
      have LZ:ko P ops[i].op= .box ty sz (.const v):=by rw[<- hop,FR]
      have ku:ops[i].dst=some t:=by rw[<- dZ,FR]
      obtain⟨x,hrun,OO⟩:=Gm (P:=P) (w:=w) (a:=a) (o:=ops[i]) LZ;have hxs:x.cells.size=v.cells.length:=(nG (c:=c) (h:=h) (w:=w) (.pure (OO _ _)) R7).1;exact⟨t,_,_,_,ku,hrun,.inl ⟨h1,by rw[FR];rfl,ty,sz,v,x.cells,by rw[FR],hvl,R7,by rw[hput,if_pos ku],dF _ _,by rw[hxs];exact hvl,fun j' u y hu hy Im w'=>(OO Im w').cells hu hy⟩⟩
     ·obtain⟨t,ty,sz,z0,m,parts,pre,FR⟩:=td h1
      have ku:ops[i].dst=some t:=by rw[<- dZ,FR]
      have LZ:ko P ops[i].op= .buildSlice ty sz z0 m parts:=by rw[<- hop,FR]
      obtain⟨tt,ps,ti,z,VJ,Ry,hi1,RQ,Ga,hs1,Iw,rfl,rfl,rfl⟩:=IJ LZ;have BP:(j,true,ag)∈ord:=by rw[hd'.split];simp
      obtain⟨oj,VK,VL⟩:=iN (hF.Ke _ BP);have Si:=VL.lk i h2 _ nc h1;have dS:=hd'.cont;rw[gX _ _ _ _ _ _ _ _ _ _ _ (hF.un _ BP)]at dS;have Sj:(LL P n ops)[j]? =some oj:=VK;rw[dV,Sj]at dS;dsimp only at dS;have DU:=(hU dS).2 i h2 _ nc h1;have L0:(bt P n ops true ops[i]).op= .buildSlice ty ti.size (bf 4 z) m (ps.toList.map fun(j,x)=>(j,aC x)):=by rw[FR]
      rw[L0]at DU;simp only[bw,iI]at DU
      have hsub: ∀t'∈(ps.toList.map fun(j,x)=>(j,aC x)).flatMap (fun p=>p.2.use),t'∈(bt P n ops true ops[i]).reads:=fun t' ht'=>by
       unfold aF.reads;rw[L0];exact List.mem_append_left _ ht'
      have LP:ER c h w (Env.only (bt P n ops true ops[i]).reads e') a.tmps:=fun t'=>by
       rw[jz];split
       ·rename_i ht'
        refine hd'.T t' (fun b' hb' hl' o' ho' L1=> ?_) fun p hp sB op zJ L1=> ?_
        ·obtain⟨oa,ob,q1,q2,hr⟩:=eG (vw.2.2 b' hb' b vf)
         rw[ho']at q1;cases q1
         rw[rF,nc]at q2;cases q2
         have:=hr.ab t' L1 ht';rw[rF]at this;rw[sS _ this]at hl';cases hl'
        ·have q1:=Si p op t' zJ L1 ht'
         rcases hd'.dc p hp with⟨b',hb',he⟩|LQ
         ·exact absurd he (sB b' hb')
         ·obtain⟨o3,t3,Kg,_,_,Pg⟩:=LQ.ex
          rw[zJ]at Kg;cases Kg
          rcases Pg.LU with h|h
          ·rw[q1.1]at h;cases h
          ·rw[q1.2]at h;cases h
       ·exact .undef
      rw[kG (e':=Env.only (bt P n ops true ops[i]).reads e') (fun t' ht'=>by rw[jz,if_pos (hsub t' ht')])]at DU;have hzl: ∀(c:Cx) (h:Heap) (w:World),LR c h w ti.size (List.replicate m (bf 4 z)) ((Array.range (m*ti.size)).map (z.cells[· %z.cells.size]!)):=fun c h w=>qm (.pure (dR 4 z)) Iw hs1 m
      obtain⟨cs',C',_,hf,_,_⟩:=iu LP ti.size ps.toList _ _ (hzl _ _ _) DU
      have Pp:t∉(bt P n ops true ops[i]).reads:=fun hr=>by
       have:=(Si i _ t nc (by rw[dZ];exact ku) hr).2;rw[h1]at this;cases this
      refine⟨t,_,C',ty,ku,nH VJ Ry hi1 RQ Ga hf,.inr ⟨h1,Si,ty,ti.size,bf 4 z,m,ps.toList,_,C',L0,hzl,?_,by rw[hput,if_pos ku],dF _ _⟩⟩
      have jq:(ps.toList.map fun(j,x)=>(j,(a.put ops[i].dst (.slice (some ⟨w.heap.size,0,none⟩) m m)).eval x))=ps.toList.map fun(j,x)=>(j,a.eval x):=by
       refine List.map_congr_left fun p hp=> ?_
       obtain⟨j',x⟩:=p;dsimp only;rw[sA (a:=a) x fun t' ht'=> ?_];rw[hput,if_neg];rw[ku];intro he;refine Pp ?_;rw[Option.some.inj he];exact hsub t' (List.mem_flatMap.2 ⟨(j',aC x),List.mem_map.2 ⟨(j',x),hp,rfl⟩,ht'⟩)
      rw[jq];exact hf
    unfold wpOp;rw[Array.getElem?_eq_getElem hlt];dsimp only;rw[if_pos (by simp[Region.wanted,Sh])];refine .inl ?_;unfold Oper.wp;rw[hrun,Oper.upon_value];have hx':Ext c h w c h (w.alloc (.cells C ty)):=E5 _
    have hnm: ∀q,listed.getD q false=true->dH done' q->pb q<w.heap.size:=fun q hq DT=>by
     rcases hd'.dc q hq with⟨b',hb',he⟩|hp
     ·exact absurd he (DT b' hb')
     ·exact hp.lt
    refine ih done' _ _ (fun q=>if q=i then w.heap.size else pb q) c h _ e' _ LX pE ⟨hd'.split,Gl hd'.rep hx' (fun q o ho=>fW w _ _ (hd'.rep.obj q o ho).lt),hd'.ext.trans Bf hx',by rw[iL];exact hd'.size,by rw[put_defers];exact hd'.defers,hls,hd'.cont,fun q hq=> ?_,fun p q hp hq sB DT he=> ?_,
     fun b' hb' hs=>hmono _ (hd'.sd b' hb' hs),hclosed,fun t' ht Ij=> ?_,fun b' hb' hl' o' ho'=>hd'.Pd b' hb' (hun _ hl').1 o' ho'⟩
    ·rw[fU]at hq
     by_cases tg:q=i
     ·subst tg
      refine .inr ⟨⟨_,t,nc,by rw[dZ];exact ku,hgd,by rw[if_pos rfl];exact Po⟩,?_,?_,fun q' o' ho'=> ?_,fun hb=> ?_⟩
      ·rw[if_pos rfl];exact hd'.ext.size
      ·rw[if_pos rfl,jo];exact Nat.lt_succ_self _
      ·rw[if_pos rfl]
       have:=(hd'.rep.obj q' o' ho').lt;omega
      ·rw[if_pos rfl]at hb
       have:=hd'.rep.im _ hb;omega
     ·rw[if_neg tg]at hq
      by_cases hex: ∃b∈done',b.1=q
      ·exact .inl hex
      ·have DT:dH done' q:=fun b hb he=>hex ⟨b,hb,he⟩
       have hp:=(((hd'.dc q hq).resolve_left hex).mono (a':=a.put ops[i].dst x) hx' fun o t' ho wk=>by
        rw[hput,if_neg];intro he;rcases wk with wk|wk
        rotate_left
        ·obtain⟨o3,t3,Kg,_,_,Pg⟩:=((hd'.dc q hq).resolve_left hex).ex
         rw[ho]at Kg;cases Kg
         have q1:=Pg.nr nc (by rw[dZ];exact he) wk;rcases Sg with h|h
         ·rw[q1.1]at h;cases h
         ·rw[q1.2]at h;cases h.1
        obtain⟨bp,FQ,nP,_⟩:=ua q hq DT o ho;have hne:bp≠b:=fun h=>tg (by rw[<- nP,h,rF])
        rcases nN vw.2.1 bp FQ b vf with h|h|h
        ·exact hne h
        ·obtain⟨oa,ob,h1,h2,hr⟩:=eG h
         rw[nP,ho]at h1;cases h1
         rw[rF,nc]at h2;cases h2
         exact hr.dst t' wk (by rw[dZ];exact he)
        ·obtain⟨oa,ob,h1,h2,hr⟩:=eG h
         rw[rF,nc]at h1;cases h1
         rw[nP,ho]at h2;cases h2
         exact hr.dst t' (by rw[dZ];exact he) wk)
       refine .inr ⟨?_,?_,?_,?_,?_⟩
       ·have:=hp.ex
        simpa only[if_neg tg]using this
       ·simpa only[if_neg tg]using hp.ge
       ·simpa only[if_neg tg]using hp.lt
       ·simpa only[if_neg tg]using hp.Gn
       ·simpa only[if_neg tg]using hp.Pf
    ·rw[fU]at hp hq
     by_cases hpi:p=i<;>by_cases tg:q=i
     ·rw[hpi,tg]
     ·rw[if_pos hpi,if_neg tg]at he
      rw[if_neg tg]at hq;have:=hnm q hq DT;omega
     ·rw[if_neg hpi,if_pos tg]at he
      rw[if_neg hpi]at hp;have:=hnm p hp sB;omega
     ·rw[if_neg hpi,if_neg tg]at he
      rw[if_neg hpi]at hp;rw[if_neg tg]at hq;exact hd'.E6 p q hp hq sB DT he
    ·have hne:t≠t':=fun h=>Ij i (by rw[fU,if_pos rfl]) Rx _ nc (by rw[dZ,ku,h])
     rw[hput,if_neg (by rw[ku];exact fun h=>hne (Option.some.inj h))];refine(hd'.T t' (fun b' hb' hl' o' ho'=>ht b' hb' ?_ o' ho') fun p hp sB=>Ij p (hmono p hp) sB).mono hd'.rep hx';rw[fU,if_neg (fun h=>Rx b' hb' h)];exact hl'
   subst Uq;have hji:j=i:=rF;subst hji
   have hR: ∀b'∈done',∃ob,(LL P n ops)[b'.1]? =some ob/\Ru (LL P n ops) ms b' (j,true,ag) ob (bt P n ops true ops[j]):=fun b' hb'=>by
    obtain⟨oa,ob,h1,h2,h3⟩:=eG (vw.2.2 b' hb' (j,true,ag) (by simp));have nk:(LL P n ops)[j]? =some ob:=h2;rw[nc]at nk;cases nk
    exact⟨oa,h1,h3⟩
   have hT: ∀t∈(bt P n ops true ops[j]).reads,VR c h w (Env.get e' t) (a.tmps.getD t undef):=by
    intro t ht
    refine hd'.T t (fun b' hb' hl' o' ho' ku=> ?_) fun p hp sB op zJ ku=>by
     obtain⟨bp,FQ,nP,hpa⟩:=ua p hp sB op zJ;rcases List.mem_cons.1 FQ with h|h
     ·rw[<- nP,h]at hp
      have hp':listed.getD j false=true:=hp;rw[hp']at hl;cases hl
     ·obtain⟨oa,ob,h1,h2,hr⟩:=eG ((List.pairwise_cons.1 vw.2.1).1 bp h)
      have L2:(LL P n ops)[j]? =some oa:=h1;rw[nc]at L2;cases L2
      rw[nP,zJ]at h2;cases h2
      have:=(hr.ba t ku ht).2;rw[nP]at this;have h4:listed.getD j false=true:=hpa _ this;rw[h4]at hl;cases hl
    obtain⟨ob,bS,hr⟩:=hR b' hb';rw[ho']at bS;cases bS
    rw[sS _ (hr.ab t ku ht)]at hl';cases hl'
   have dS:=hd'.cont;rw[gX _ _ _ _ _ _ _ _ _ _ _ (hF.un (j,true,ag) (by rw[hd'.split];simp))]at dS;rw[dV,nc]at dS;dsimp only at dS
   replace dS:=(hU dS).1
   have hdc: ∀(x:Value) (c':Cx) (h':Heap) (w':World),Ext c h w c' h' w'-> ∀q,(listed.setIfInBounds j true).getD q false=true->(∃ b∈done'++[(j,true,ag)],b.1=q)\/rD P n ops w0 pb c' h' w' (a.put ops[j].dst x) q:=fun x c' h' w' hx' q hq=>by
    rw[fU]at hq;by_cases h:q=j
    ·exact .inl ⟨(j,true,ag),by simp,h.symm⟩
    ·rw[if_neg h]at hq
     by_cases hex: ∃b∈done',b.1=q
     ·obtain⟨b',hb',he⟩:=hex
      exact .inl ⟨b',by simp[hb'],he⟩
     ·have DT:dH done' q:=fun b hb he=>hex ⟨b,hb,he⟩
      refine .inr (((hd'.dc q hq).resolve_left hex).mono hx' fun o t ho wk=> ?_);rw[hput,if_neg];intro he;obtain⟨bp,FQ,nP,hpa⟩:=ua q hq DT o ho;rcases List.mem_cons.1 FQ with h1|h1
      ·exact h (by rw[<- nP,h1])
      ·obtain⟨oa,ob,h2,h3,hr⟩:=eG ((List.pairwise_cons.1 vw.2.1).1 bp h1)
       have nk:(LL P n ops)[j]? =some oa:=h2;rw[nc]at nk;cases nk
       rw[nP,ho]at h3;cases h3
       rcases wk with wk|wk
       ·exact hr.dst t (by rw[dZ];exact he) wk
       ·have:=hr.ab t (by rw[dZ];exact he) wk
        rw[nP]at this;have h4:listed.getD j false=true:=hpa _ this;rw[h4]at hl;cases hl
   have Gu: ∀p q,(listed.setIfInBounds j true).getD p false=true->(listed.setIfInBounds j true).getD q false=true->dH (done'++[(j,true,ag)]) p->dH (done'++[(j,true,ag)]) q->pb p=pb q->p=q:=by
    intro p q hp hq sB DT he;have hpi:p≠j:=fun h=>sB (j,true,ag) (by simp) h.symm
    have tg:q≠j:=fun h=>DT (j,true,ag) (by simp) h.symm
    rw[fU,if_neg hpi]at hp;rw[fU,if_neg tg]at hq;exact hd'.E6 p q hp hq (fun b hb=>sB b (by simp[hb])) (fun b hb=>DT b (by simp[hb])) he
   have fin: ∀(v:SV) (x:Value) (e1:Env) (c':Cx) (h':Heap) (w':World),LN e' e1->bP c' h' w'->Ext c h w c' h' w'->VR c' h' w' v x->ju P Γ (LL P n ops) r (nD e1 (bt P n ops true ops[j]).dst v) h' k kp->
     (∀ b'∈done',(listed.setIfInBounds j true).getD b'.1 false=false-> ∀o',(LL P n ops)[b'.1]? =some o'->j0 P Γ o' (nD e1 (bt P n ops true ops[j]).dst v) h->j0 P Γ o' (nD e1 (bt P n ops true ops[j]).dst v) h')->
     wpAny P .any ops Q fuel (listed.setIfInBounds j true) (a.put ops[j].dst x) w':=by
    intro v x e1 c' h' w' wj hr' hx' mB hc VM;have Gv: ∀t,(bt P n ops true ops[j]).dst≠some t->Env.get (nD e1 (bt P n ops true ops[j]).dst v) t=Env.get e' t:=fun t ht=>by rw[(lS e1 _ v t).2 ht,<-wj]
    refine ih (done'++[(j,true,ag)]) r _ pb c' h' w' _ _ LX pE ⟨by rw[hd'.split];simp,hr',hd'.ext.trans Bf hx',by rw[iL];exact hd'.size,by rw[put_defers];exact hd'.defers,hls,hc,hdc x c' h' w' hx',Gu,fun b' hb' hs=> ?_,hclosed,fun t ht Ij=> ?_,fun b' hb' hl' o' ho'=> ?_⟩
    ·rcases List.mem_append.1 hb' with h|h
     ·exact hmono _ (hd'.sd b' h hs)
     ·simp only[List.mem_singleton]at h;subst h
      rw[fU,if_pos rfl]
    ·rw[hput]
     by_cases hdt:ops[j].dst=some t
     ·rw[if_pos hdt,(lS e1 _ v t).1 (by rw[dZ];exact hdt)];exact mB
     ·rw[if_neg hdt,Gv t (by rw[dZ];exact hdt)]
      refine(hd'.T t (fun b' hb' hl' o' ho'=>ht b' (by simp[hb']) ?_ o' ho') fun p hp sB=>Ij p (hmono p hp) fun b' hb'=> ?_).mono hd'.rep hx'
      rotate_left
      ·rcases List.mem_append.1 hb' with h|h
       ·exact sB b' h
       ·simp only[List.mem_singleton]at h;subst h
        intro he;have he':j=p:=he;rw[<- he',hl]at hp;cases hp
      rw[fU,if_neg (fun e=> ?_)]
      ·exact hl'
      ·obtain⟨ob,_,hr⟩:=hR b' hb'
       exact hr.ne e
    ·rcases List.mem_append.1 hb' with h|h
     ·obtain⟨vV,hne⟩:=hun _ hl'
      obtain⟨ob,bS,hr⟩:=hR b' h;rw[ho']at bS;cases bS
      refine VM b' h hl' o' ho' ((hd'.Pd b' h vV o' ho').congr (fun t ht=>(Gv t fun ku=> ?_).symm) fun t ht=>(Gv t fun ku=>hr.dst t ht ku).symm);have:=(hr.ba t ku ht).2;rw[sS _ this]at vV;cases vV
     ·simp only[List.mem_singleton]at h;subst h
      rw[fU,if_pos rfl]at hl';cases hl'
   rcases jy dS with⟨hw,e1,wj,hp⟩|⟨hw,e1,wj,hp⟩
   ·rw[ia (fun t _=>(wj t).symm)]at hp
    refine om fF (b:=true) (Array.getElem?_eq_getElem hlt) hE.good hd'.rep hT hd'.size hw (fun _=>hp) (fun _ v x h' c' w' hk hr' hx' mB=> ?_) (fun _ v x h' c' w' hk hr' hx' mB=>Se v x h' c' a w' hk hr' (hd'.ext.trans Bf hx') hd'.size hd'.defers mB) (fun hf=>by cases hf);rw[fS]at hk;obtain⟨hc,hag⟩:=ic fF (fun q hq oi LS=>hE.ag q hq oi LS) hk;refine fin v x e1 c' h' w' wj hr' hx' mB hc fun b' hb' hl' o' ho' hold=> ?_
    obtain⟨vV,hne⟩:=hun _ hl';obtain⟨ob,bS,hr⟩:=hR b' hb';rw[ho']at bS;cases bS
    have hns:b'.2.1=false:=by
     cases hs:b'.2.1 with
     |false=>rfl
     |true=>rw[hd'.sd b' hb' hs]at vV;cases vV
    rcases hr.rd hns rfl with h1|h1|h1
    ·rw[sS _ h1]at vV;cases vV
    ·exact hold.heap h1
    ·obtain⟨v',q1,q2⟩:=hold
     rcases q2 with⟨q2,_⟩|q2
     ·obtain⟨VD,Gs,Sd⟩:=iN (hF.Ke b' (by rw[hd'.split];simp[hb']))
      rw[ho']at Gs;cases Gs
      exact hag _ h1 o' ho' (Sd.cls hns) q2
     ·exact⟨v',q1,.inr q2⟩
   ·rw[fS]at hp
    refine om fF (b:=false) (Array.getElem?_eq_getElem hlt) hE.good hd'.rep hT hd'.size hw (k:=fun _ _=>False) (kp:=fun _ _=>False) (fun hf=>by cases hf) (fun hf=>by cases hf) (fun hf=>by cases hf) (fun _=> ?_);exact fin (.aN []) undef e1 c h w wj hd'.rep .refl (.pure (.aN _ _ rfl fun i v x hv=>by simp at hv)) hp fun _ _ _ _ _ hold=>hold
theorem BQ{m:Nat}{h:Heap}{p v:SV}{K:Heap->Prop}(hp:o9 m h p v K): ∃h',K h':=by
 unfold o9 at hp;obtain⟨hu,hp⟩:=cR.1 hp
 replace hp:=ah.1 hp
 obtain⟨_,hp⟩:=hp;obtain⟨nx,l⟩:=h;split at hp
 ·simp only[aW]at hp
  split at hp
  ·split at hp
   ·replace hp:=ah.1 hp
    obtain⟨_,hp⟩:=hp;rw[dV]at hp;split at hp
    ·obtain⟨w1,hp,_,_⟩:=tQ hp hu
     obtain⟨_,hp⟩:=iH.1 hp;rw[dU]at hp;exact⟨_,hp⟩
    ·exact hp.elim
   ·exact hp.elim
  ·exact hp.elim
 ·exact hp.elim
theorem IL{o:n6}(hc:o.cls<=1\/o.mD=true){e:Env}{h:Heap}{K kp:SV->Heap->Prop}(hp:bw P Γ o e h K kp): ∃v h',K v h':=by
 rcases hc with hc|hc
 ·obtain⟨v,hv,_⟩:=tX hc hp
  exact⟨v,h,hv⟩
 ·cases o with
  |store m x v=>
   simp only[bw,aE]at hp;obtain⟨h',hk⟩:=BQ hp;exact⟨_,h',hk⟩
  |_=>cases hc
theorem rG{o:aF}(hc:o.op.cls<=1\/o.op.mD=true){e:Env}{h:Heap}{K:Env->Heap->Prop}(hp:Bk P Γ o e h K): ∃e' h',K e' h':=by
 unfold Bk at hp;rcases jy hp with⟨_,e1,_,hp⟩|⟨_,e1,_,hp⟩
 ·obtain⟨v,h',hk⟩:=IL hc hp
  rw[fS]at hk;exact⟨_,_,hk⟩
 ·rw[fS]at hp
  exact⟨_,_,hp⟩
theorem wm{L:List aF}: ∀ {T:List Nat},(∀ i∈T,∀o,L[i]? =some o->o.op.cls<=1\/o.op.mD=true)-> ∀ {e:Env} {h:Heap} {K:Env->Heap->Prop},Iu P Γ L T e h K-> ∃e' h',K e' h'
 | [],_,e,h,K,hp=>⟨e,h,hp⟩
 |i::r,hT,e,h,K,hp=>by
  unfold Iu at hp;rw[dV]at hp;split at hp
  ·exact hp.elim
  ·rename_i o ho
   obtain⟨e',h',hp⟩:=rG (hT i (by simp) o ho) hp;exact wm (fun j hj=>hT j (by simp[hj])) hp
theorem uf{f:Nat->Prop->Prop}{p:Prop}: ∀ {l:List Nat},(∀ i∈l,∀q,f i q->q)->yT l f p->p
 | [],_,h=>h
 |i::r,hf,h=>uf (fun j hj=>hf j (by simp[hj])) (hf i (by simp) _ h)
theorem wo{f:Nat->Prop->Prop}{p:Prop}: ∀ {l:List Nat},(∀ i∈l,∀q,f i q->q)->yT l f p-> ∀i∈l,∃q,f i q
 |i::r,hf,h,j,hj=>by
  rcases List.mem_cons.1 hj with rfl|hj
  ·exact⟨_,h⟩
  ·exact wo (fun j hj=>hf j (by simp[hj])) (hf i (by simp) _ h) j hj
theorem lT{i:Nat}: ∀ {l:List Nat} {j:Nat},j∈tI l i<->j∈l/\j≠i
 | [],j=>by simp[tI]
 |x::r,j=>by
  unfold tI;rcases bE x i with⟨h,h'⟩|⟨h,h'⟩<;>rw[h]
  ·subst h'
   simp only[cond_true,lT,List.mem_cons];constructor
   ·rintro⟨a,b⟩;exact⟨.inr a,b⟩
   ·rintro⟨a|a,b⟩
    ·exact absurd a b
    ·exact⟨a,b⟩
  ·simp only[cond_false,List.mem_cons,lT]
   constructor
   ·rintro(rfl|⟨a,b⟩)
    ·exact⟨.inl rfl,h'⟩
    ·exact⟨.inr a,b⟩
   ·rintro⟨rfl|a,b⟩
    ·exact .inl rfl
    ·exact .inr ⟨a,b⟩
theorem zK: ∀ {l:List Nat} {i:Nat},kU l i=true->i∈l
 | [],i,h=>by cases h
 |x::r,i,h=>by
  unfold kU at h;rcases bE x i with⟨hb,h'⟩|⟨hb,h'⟩<;>rw[hb]at h
  ·simp[h']
  ·exact List.mem_cons_of_mem _ (zK h)
theorem wq{rem:List Nat}: ∀ {pre:List Nat},(∀ k∈pre,k∉rem)->rq pre rem=true
 | [],_=>rfl
 |k::r,h=>by
  unfold rq
  have hk:kU rem k=false:=by
   cases hb:kU rem k with
   |false=>rfl
   |true=>exact absurd (zK hb) (h k (by simp))
  rw[hk,wq fun j hj=>h j (by simp[hj])];rfl
theorem zL{e':Env}: ∀ {e:Env},F4 e' e-> ∀t,Env.get e t= .undef\/Env.get e t=Env.get e' t
 | [],_,t=> .inl rfl
 |(s,v)::r,h,t=>by
  have e:Env.get ((s,v)::r) t=bif Nat.beq s t then v else Env.get r t:=rfl;rw[e];cases hb:Nat.beq s t with
  |true=>
   have:=Nat.eq_of_beq_eq_true hb;subst this;exact .inr h.1.symm
  |false=>exact zL h.2 t
theorem rH{L:List aF}{yJ:Env->Heap->Prop->Prop}(xO: ∀e h p,yJ e h p->p): ∀(m:Nat) {rem:List Nat},(∀ i∈rem,∀o,L[i]? =some o->o.op.cls<=1\/o.op.mD=true)-> ∀ {e:Env} {h:Heap} {p:Prop},xA P Γ L yJ m rem e h p->p
 |0,[],_,e,h,p,hp=>xO e h p (show yJ e h p from hp)
 |0,x::r,_,e,h,p,hp=>(show False from hp).elim
 |m+1,[],_,e,h,p,hp=>xO e h p (show yJ e h p from hp)
 |m+1,x::r,hT,e,h,p,hp=>by
  rw[vO]at hp;refine uf (fun i hi q hq=> ?_) hp;rw[dV]at hq;split at hq
  ·exact hq.elim
  ·rename_i o ho
   rcases xB hq with⟨_,hq⟩|⟨_,hq⟩
   ·obtain⟨e',h',hq⟩:=rG (hT i hi o ho) hq
    exact rH xO m (fun j hj=>hT j (lT.1 hj).1) hq
   ·exact hq
theorem IM(fF:Γ.Ok P)(hF:sR (LL P n ops) ms ord TT)(Bf:bP c0 h0 w0){yJ:Env->Heap->Prop->Prop}{C:Env->Heap->Prop}{p:Prop}(xO: ∀e h p,yJ e h p->C e h/\p)
  (hK: ∀e h c a w,C e h->bP c h w->Ext c0 h0 w0 c h w->ER c h w e a.tmps->a.tmps.size=n->a.defers=ds->Q .normal a w):
  ∀(fuel m:Nat) (rem:List Nat) (p:Prop) (listed:Array Bool) (e:Env) (h:Heap) (c:Cx) (a:Act) (w:World),FP ops.size listed<=fuel->listed.size=ops.size->(∀ i∈rem,i∈TT)->(∀ i,i<ops.size->(listed.getD i false=false<->i∈rem))->
   xA P Γ (LL P n ops) yJ m rem e h p->bP c h w->Ext c0 h0 w0 c h w->ER c h w e a.tmps->a.tmps.size=n->a.defers=ds->wpAny P .any ops Q fuel listed a w:=by
 have eI: ∀rem:List Nat,(∀ i∈rem,i∈TT)-> ∀i∈rem,∀o,(LL P n ops)[i]? =some o->o.op.cls<=1\/o.op.mD=true:=fun rem vz i hi o ho=>by
  obtain⟨o',ho',_,hc,_⟩:=hF.tail i (vz i hi);rw[ho]at ho';cases ho';exact hc
 have Pq: ∀i∈TT,i<ops.size:=fun i hi=>by
  obtain⟨o',ho',_⟩:=hF.tail i hi;rcases Nat.lt_or_ge i (LL P n ops).length with h|h
  ·rw[tZ]at h;exact h
  ·rw[List.getElem?_eq_none h]at ho';cases ho'
 have vm: ∀(m:Nat) (rem:List Nat) (p:Prop) (listed:Array Bool) (e:Env) (h:Heap) (c:Cx) (a:Act) (w:World),(∀ i,i<ops.size->listed.getD i false=true)->(∀ i∈rem,i∈TT)->(∀ i,i<ops.size->(listed.getD i false=false<->i∈rem))->
   xA P Γ (LL P n ops) yJ m rem e h p->bP c h w->Ext c0 h0 w0 c h w->ER c h w e a.tmps->a.tmps.size=n->a.defers=ds->Q .normal a w:=by
  intro m rem p listed e h c a w hall Il vz hp hr hx he hn hds
  have IG:rem=[]:=by
   cases rem with
   |nil=>rfl
   |cons x r=>
    have h1:=Pq x (Il x (by simp));have h2:=(vz x h1).2 (by simp);rw[hall x h1]at h2;cases h2
  subst IG;have hp:yJ e h p:=by cases m<;>exact hp
  exact hK e h c a w (xO e h p hp).1 hr hx he hn hds
 intro fuel
 induction fuel with
 |zero=>
  intro m rem p listed e h c a w hu hls Il vz hp hr hx he hn hds;have hall:=zG (Nat.le_zero.1 hu);refine⟨List.eq_nil_iff_forall_not_mem.2 fun i hi=> ?_,vm m rem p listed e h c a w hall Il vz hp hr hx he hn hds⟩;obtain⟨hlt,hl,_⟩:=j4 hls hi;rw[hall i hlt]at hl;cases hl
 |succ fuel ih=>
  intro m rem p listed e h c a w hu hls Il vz hp hr hx he hn hds;refine⟨fun Sl=>vm m rem p listed e h c a w (fun i hi=>pF hF hls Sl (i+1) i (Nat.lt_succ_self _) hi) Il vz hp hr hx he hn hds,fun i hi=> ?_⟩;obtain⟨hlt,hl,hpre⟩:=j4 hls hi;have Sn:i∈rem:=(vz i hlt).1 hl;have nc:=rE (P:=P) (n:=n) hlt;obtain⟨o,ho,hg,_,_⟩:=hF.tail i (Il i Sn);rw[nc]at ho;cases ho
  obtain⟨dZ,hop,LY,E7,_⟩:=lR hg
  have hfree:rq (bt P n ops true ops[i]).pre rem=true:=wq fun k hk hkr=>by
   rw[E7]at hk;obtain⟨ed,Pk,vu⟩:=List.mem_filterMap.1 hk;cases hbd:iF ed
   ·rw[hbd]at vu;cases vu
   ·rw[hbd]at vu
    simp only[cond_true,Option.some.injEq]at vu;have h1:=hpre ed Pk hbd;rw[vu]at h1;have h2:=(vz k (Pq k (Il k hkr))).2 hkr;rw[h1]at h2;cases h2
  cases rem with
  |nil=>cases Sn
  |cons x0 r0=>
  cases m with
  |zero=>exact(show False from hp).elim
  |succ m=>
   rw[vO]at hp
   obtain⟨q,hq⟩:=wo (fun j hj q hq=>by
    rw[dV]at hq;split at hq
    ·exact hq.elim
    ·rename_i o ho
     rcases xB hq with⟨_,hq⟩|⟨_,hq⟩
     ·obtain⟨e',h',hq⟩:=rG (eI _ Il j hj o ho) hq
      exact rH (fun e h p hh=>(xO e h p hh).2) m (fun j' hj'=>eI _ Il j' (lT.1 hj').1) hq
     ·exact hq) hp i Sn
   rw[dV,nc]at hq;dsimp only at hq;rw[hfree]at hq
   replace hq:Bk P Γ (bt P n ops true ops[i]) e h fun e' h'=>xA P Γ (LL P n ops) yJ m (tI (x0::r0) i) e' h' q:=hq
   have hil:i<listed.size:=by rw[hls];exact hlt
   have pE:FP ops.size (listed.setIfInBounds i true)<=fuel:=by
    have:=DQ hlt hil hl;omega
   have Pr: ∀j,j<ops.size->((listed.setIfInBounds i true).getD j false=false<->j∈tI (x0::r0) i):=fun j hj=>by
    rw[j3 listed i j hil,lT];by_cases e:j=i
    ·rw[if_pos e];simp[e]
    ·rw[if_neg e,vz j hj];simp[e]
   have So: ∀j∈tI (x0::r0) i,j∈TT:=fun j hj=>Il j (lT.1 hj).1
   have fin: ∀(v:SV) (x:Value) (e1:Env) (c':Cx) (h':Heap) (w':World),LN e e1->bP c' h' w'->Ext c h w c' h' w'->VR c' h' w' v x->xA P Γ (LL P n ops) yJ m (tI (x0::r0) i) (nD e1 (bt P n ops true ops[i]).dst v) h' q->
     wpAny P .any ops Q fuel (listed.setIfInBounds i true) (a.put ops[i].dst x) w':=by
    intro v x e1 c' h' w' wj hr' hx' mB hc;have IF:ER c' h' w' e1 a.tmps:=fun t=>by rw[<- wj];exact(he t).mono hr hx'
    refine ih m _ q _ _ h' c' _ w' pE (by simp[hls]) So Pr hc hr' (hx.trans Bf hx') ?_ (by rw[iL];exact hn) (by rw[put_defers];exact hds);rw[dZ];exact IF.put (fun t ht=>by rw[hn];exact LY t ht) mB
   unfold Bk at hq;rcases jy hq with⟨hw,e1,wj,hq⟩|⟨hw,e1,wj,hq⟩
   ·rw[ia (fun t _=>(wj t).symm)]at hq
    refine om fF (b:=true) (Array.getElem?_eq_getElem hlt) hg hr (fun t _=>he t) hn hw (fun _=>hq) (fun _ v x h' c' w' hk hr' hx' mB=> ?_) (fun _ v x h' c' w' hk=>hk.elim) (fun hf=>by cases hf);rw[fS]at hk;exact fin v x e1 c' h' w' wj hr' hx' mB hk
   ·rw[fS]at hq
    refine om fF (b:=false) (Array.getElem?_eq_getElem hlt) hg hr (fun t _=>he t) hn hw (k:=fun _ _=>False) (kp:=fun _ _=>False) (fun hf=>by cases hf) (fun hf=>by cases hf) (fun hf=>by cases hf) (fun _=> ?_);exact fin (.aN []) undef e1 c h w wj hr .refl (.pure (.aN _ _ rfl fun i v x hv=>by simp at hv)) hq
theorem qu{L:List aF}{t:List oE}{k:Env->Heap->Prop}{kp:SV->Env->Heap->Prop}: ∀(p:List oE),(∀ b∈p,kU b.2.2 b.1=false)-> ∀(e:Env) (h:Heap),ju P Γ L (p++t) e h k kp=ju P Γ L p e h (fun e h=>ju P Γ L t e h k kp) kp
 | [],_,e,h=>rfl
 |(i,b,ag)::r,hp,e,h=>by
  have ih:=qu (L:=L) (t:=t) (k:=k) (kp:=kp) r (fun b hb=>hp b (by simp[hb]));have hu:=hp (i,b,ag) (by simp);rw[List.cons_append,gX _ _ _ _ _ _ _ _ _ _ _ hu,gX _ _ _ _ _ _ _ _ _ _ _ hu];simp only[ih]
theorem ug(fF:Γ.Ok P){id:Nat}(hm:P.follows .mixedOrders=true)(hok:DO (LL P n ops) ord=true){c:Cx}{h:Heap}{w:World}{e:Env}{a:Act}(hp:ju P Γ (LL P n ops) ord e h k kp)(hr:bP c h w)(he:ER c h w e a.tmps)(hn:a.tmps.size=n)
  (hK: ∀e' h' c' a' w',k e' h'->bP c' h' w'->Ext c h w c' h' w'->ER c' h' w' e' a'.tmps->a'.tmps.size=n->a'.defers=a.defers->Q .normal a' w')
  (Se: ∀v x h' c' a' w',kp v [] h'->bP c' h' w'->Ext c h w c' h' w'->a'.tmps.size=n->a'.defers=a.defers->VR c' h' w' v x->Q (.panic [{v:=x,recovered:=false}]) a' w'):
  (Code.region id ops true).wp P Q a w:=by
 refine wp_region_any hm ?_;have hx:Ext c h w c h {w with drawn:=w.drawn+1}:=⟨rfl,rfl,rfl,Nat.le_refl _,fun _ _ _=>rfl,fun _ _=>rfl,fun _ h=>h,fun _ h=> .inl h,Nat.le_refl _,fun _ o' _ h=>⟨o',h,Nat.le_refl _,rfl,fun _=>rfl⟩,fun _ o' h=> .inr ⟨o',h,rfl⟩⟩;have hr':bP c h {w with drawn:=w.drawn+1}:=⟨hr.lt,fun i o ho=>(hr.obj i o ho).mono hr hx rfl,hr.inj,hr.apart,hr.im,hr.nv hx⟩
 have hfalse: ∀i,(Array.replicate ops.size false).getD i false=false:=fun i=>by
  rw[Array.getD_eq_getD_getElem?,Array.getElem?_replicate];split<;>rfl
 have hF:=BN hok;obtain⟨Sp,hun,ES⟩:=rC ord;rw[Sp,qu _ hun]at hp;refine Pj fF (c0:=c) (h0:=h) (w0:=w) (ds:=a.defers) hF (fun fuel listed e' h' c' a' w' hu hls hall Ik hk hr' hx he' hn' hd'=> ?_) Se hr ops.size [] (fj ord).1 _ (fun _=>0) c h _ e a (fun i _=>hfalse i) ?_ ⟨rfl,hr',hx,hn,rfl,by simp,hp,fun i hi=> ?_,fun i j hi=> ?_,fun b hb=>(by cases hb),fun i hi=> ?_,fun t _ _=>(he t).mono hr hx,fun b hb=>(by cases hb)⟩
 ·rcases ES with ES|⟨b,r,ES,hmk⟩
  ·rw[ES]at hk
   have Kj: ∀i,i<ops.size->listed.getD i false=true:=fun i hi=>hall i hi (by rw[ES];simp)
   have hq:Q .normal a' w':=hK e' h' c' a' w' hk hr' hx he' hn' hd';cases fuel with
   |zero=>
    refine⟨List.eq_nil_iff_forall_not_mem.2 fun i hi=> ?_,hq⟩;obtain⟨hlt,hl,_⟩:=j4 hls hi;rw[Kj i hlt]at hl;cases hl
   |succ fuel=>
    refine⟨fun _=>hq,fun i hi=> ?_⟩;obtain⟨hlt,hl,_⟩:=j4 hls hi;rw[Kj i hlt]at hl;cases hl
  ·obtain⟨j,bb,ag⟩:=b
   rw[ES,Bl _ _ _ _ _ _ _ _ _ _ _ hmk]at hk;unfold Dz at hk;have VN:(fj ord).2.map (fun y=>y.1)=j::r.map fun y=>y.1:=by rw[ES];rfl
   rw[<- VN]at hk
   obtain⟨e1,h1,hk⟩:=wm (fun i hi o ho=>by
    obtain⟨o',ho',_,hc,_⟩:=hF.tail i hi;rw[ho]at ho';cases ho';exact hc) hk
   have xO: ∀(e':Env) (h':Heap) (p:Prop),Γ.fin (Rk e1 h1 e' h') (F4 e' e1/\h1=h') p->(Rk e1 h1 e' h'=true\/F4 e' e1/\h1=h')/\p:=fun e' h' p hh=>fF.fin _ _ _ hh
   have hkk:k e1 h1:=rH (fun e h p hh=>(xO e h p hh).2) _ (fun i hi o ho=>by
    obtain⟨o',ho',_,hc,_⟩:=hF.tail i hi;rw[ho]at ho';cases ho';exact hc) hk
   refine IM fF hF hr (ds:=a.defers) (p:=k e1 h1) xO (fun e2 h2 c2 a2 w2 hst iw hx2 jq hn2 nq=> ?_) fuel _ _ _ listed e' h' c' a' w' hu hls (fun _ h=>h) (fun i hi=>⟨fun hl=> ?_,fun hT=>Ik i hT⟩) hk hr' hx he' hn' hd'
   ·rcases hst with hst|⟨VO,rfl⟩
    rotate_left
    ·refine hK e1 h1 c2 a2 w2 hkk iw hx2 (fun t=> ?_) hn2 nq
     rcases zL VO t with hg|hg
     ·rw[hg];exact .undef
     ·rw[hg];exact jq t
    unfold Rk at hst;simp only[Bool.and_eq_true]at hst;obtain⟨h3,h4,h5⟩:=hst;have hs:Pe h1 h2:=⟨(Nat.eq_of_beq_eq_true h4).symm,fun i o ho=>Gk h5 i o ho⟩;refine hK e1 h1 c2 a2 w2 hkk (iw.hle hs) (hx2.trans hr (Ext.hle hs)) (fun t=> ?_) hn2 nq;rcases zF h3 t with hg|hg
    ·rw[hg];exact .undef
    ·exact(hg.vr (jq t)).hle hs
   ·by_cases hT:i∈(fj ord).2.map fun y=>y.1
    ·exact hT
    ·rw[hall i hi hT]at hl;cases hl
 ·unfold FP
  exact Nat.le_trans (List.length_filter_le _ _) (by simp)
 ·rw[hfalse]at hi;cases hi
 ·rw[hfalse]at hi;cases hi
 ·rw[hfalse]at hi;cases hi
end
end
end Ab
