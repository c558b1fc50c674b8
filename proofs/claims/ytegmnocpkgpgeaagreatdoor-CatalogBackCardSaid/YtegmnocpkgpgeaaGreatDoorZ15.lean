/- Parts of the proof of PCatalogBack, one behind the other, with short names. -/
import Derived.Test.YtegmnocpkgpgeaaGreatDoorZ14
set_option linter.unusedVariables false
set_option linter.unusedSimpArgs false
namespace Ab
open Go
section
def lN(P:Program)(Γ:bR)(o:aA)(e:Env)(h:Heap):Prop:= ∃v,(∀ t,o.dst=some t->Lk (Env.get e t) v)/\
 ((ku e o.guard=some true/\ ∀K' fA:SV->Heap->Prop,K' v h->bF P Γ o.op e h K' fA)\/(ku e o.guard=some false/\v= .bn []))
theorem pT{e e':Env}{o:aA}(hE: ∀t∈o.reads,Env.get e t=Env.get e' t):ku e o.guard=ku e' o.guard:=by
 unfold ku;cases hg:o.guard with
 |none=>rfl
 |some gw=>
  obtain⟨t,want⟩:=gw;dsimp only;rw[hE t (by simp[aA.reads,hg])]
theorem jx{P:Program}{Γ:bR}{e e':Env}{h:Heap}{o:aA}{K kp:SV->Heap->Prop}(hE: ∀t∈o.reads,Env.get e t=Env.get e' t):bF P Γ o.op e h K kp=bF P Γ o.op e' h K kp:=
 zb fun t ht=>hE t (by simp[aA.reads,ht])
theorem lN.congr{P:Program}{Γ:bR}{e e':Env}{h:Heap}{o:aA}(hE: ∀t∈o.reads,Env.get e t=Env.get e' t)(hd: ∀t,o.dst=some t->Env.get e t=Env.get e' t)(hp:lN P Γ o e h):lN P Γ o e' h:=by
 obtain⟨v,h1,h2⟩:=hp;refine⟨v,fun t ht=>by rw[<- hd t ht];exact h1 t ht,?_⟩;rw[<- pT hE];rcases h2 with⟨h2,h3⟩|h2
 ·exact .inl ⟨h2,fun K' fA hk=>by rw[<- jx hE];exact h3 K' fA hk⟩
 ·exact .inr h2
theorem lN.heap{P:Program}{Γ:bR}{e:Env}{h h':Heap}{o:aA}(hc:o.op.cls=0)(hp:lN P Γ o e h):lN P Γ o e h':=by
 obtain⟨v,h1,h2⟩:=hp;refine⟨v,h1,?_⟩;rcases h2 with⟨h2,h3⟩|h2
 ·refine .inl ⟨h2,fun K' fA hk=> ?_⟩
  obtain⟨v',qT,hd⟩:=Ct (k:=fun u _=>u=v) hc (h3 (fun u _=>u=v) (fun _ _=>False) rfl);subst qT;exact hd h' K' fA hk
 ·exact .inr h2
theorem nQ(e:Env)(d:Option Nat)(v:SV)(t:Nat):(d=some t->Env.get (pJ e d v) t=v)/\(d≠some t->Env.get (pJ e d v) t=Env.get e t):=by
 cases d with
 |none=>exact⟨(fun h=>by cases h),fun _=>rfl⟩
 |some u=>
  simp only[pJ,qm];refine⟨fun h=> ?_,fun h=> ?_⟩
  ·cases h;rw[if_pos rfl]
  ·rw[if_neg (fun e=>h (by rw[e]))]
theorem jy{P:Program}{Γ:bR}(gd:Γ.Ok P){L:List aA}{p:Prop}: ∀ {ag:List Nat} {e:Env} {h:Heap},(∀ i∈ag,∀o,L[i]? =some o->o.op.cls<=1\/vu o=true)->ot P Γ L ag e h p->
  p/\ ∀i∈ag,∀o,L[i]? =some o->o.op.cls<=1->ku e o.guard=some true->lN P Γ o e h
 | [],e,h,_,hp=>⟨hp,fun i hi=>by cases hi⟩
 |j::r,e,h,hc,hp=>by
  rw[BL]at hp;rw[cM]at hp;split at hp
  ·exact hp.elim
  ·rename_i o ho
   have uF: ∀i∈r,∀o,L[i]? =some o->o.op.cls<=1\/vu o=true:=fun i hi=>hc i (by simp[hi])
   cases hB:vu o with
   |true=>
    rw[hB]at hp;obtain⟨h1,h2⟩:=jy gd (ag:=r) uF hp;refine⟨h1,fun i hi o' ho' eD hw=> ?_⟩;rcases List.mem_cons.1 hi with rfl|hi
    ·rw[ho]at ho';cases ho'
     rw[AG hB]at eD;omega
    ·exact h2 i hi o' ho' eD hw
   |false=>
   rw[hB]at hp;have y8:o.op.cls<=1:=(hc j (by simp) o ho).resolve_right (by rw[hB];decide)
   have fin: ∀ {e1:Env},Pj e e1->(ku e o.guard=some true->lN P Γ o e h)->(p/\ ∀i∈r,∀o,L[i]? =some o->o.op.cls<=1->ku e1 o.guard=some true->lN P Γ o e1 h)->
     p/\ ∀i∈j::r,∀o,L[i]? =some o->o.op.cls<=1->ku e o.guard=some true->lN P Γ o e h:=by
    intro e1 hE hpo ⟨TO,hr⟩;refine⟨TO,fun i hi o' ho' eD hw=> ?_⟩;rcases List.mem_cons.1 hi with rfl|hi
    ·rw[ho]at ho';cases ho';exact hpo hw
    ·exact(hr i hi o' ho' eD (by rw[<- pT (fun t _=>hE t)];exact hw)).congr (fun t _=>(hE t).symm) (fun t _=>(hE t).symm)
   rcases lJ hp with⟨hw,e1,hE,hp⟩|⟨hw,e1,hE,hp⟩
   ·obtain⟨v,hv,hd⟩:=wG y8 hp
    have Pm:(∀ t,o.dst=some t->Lk (Env.get e t) v)->lN P Γ o e h:=fun eA=>⟨v,eA,.inl ⟨hw,fun K' fA hk=>by rw[jx (fun t _=>hE t)];exact hd K' fA hk⟩⟩
    split at hv
    ·rename_i t eA
     rw[iT]at hv;obtain⟨hvt,hv⟩:=gd.same _ _ _ hv;exact fin hE (fun _=>Pm fun t' ht'=>by rw[eA]at ht';cases ht';rw[hE];exact hvt) (jy gd uF hv)
    ·rename_i eA
     exact fin hE (fun _=>Pm fun t' ht'=>by rw[eA]at ht';cases ht') (jy gd uF hv)
   ·exact fin hE (fun hw'=>by rw[hw]at hw';cases hw') (jy gd uF hp)
theorem pU{α:Type}{R:α->α->Prop}: ∀ {l:List α},l.Pairwise R-> ∀a∈l,∀b∈l,a=b\/R a b\/R b a
 | [],_,a,ha,_,_=>by cases ha
 |x::r,.cons hx hr,a,ha,b,hb=>by
  rcases List.mem_cons.1 ha with rfl|Y7<;>rcases List.mem_cons.1 hb with rfl|hb'
  ·exact .inl rfl
  ·exact .inr (.inl (hx b hb'))
  ·exact .inr (.inr (hx a Y7))
  ·exact pU hr a Y7 b hb'
structure ve(L:List aA)(ms:List Nat)(ord:List qK)(T:List Nat):Prop where
 mask: ∀(j:Nat) (o:aA),L[j]? =some o->ms.getD j 0=AB ms o.pre/\ ∀k∈o.pre,k<j
 pw:ord.Pairwise fun a b=>WI L ms a b=true
 Pn: ∀b∈ord,WJ L b=true
 all: ∀i,i<L.length->(∃ b∈ord,b.1=i)\/i∈T
 un: ∀b∈ord,mO b.2.2 b.1=false
 tail: ∀i∈T,∃o,L[i]? =some o/\o.op.qS=false/\(o.op.cls<=1\/o.op.oD=true)/\ ∀b∈ord,Nat.testBit (ms.getD i 0) b.1=true
theorem tJ: ∀(ord:List qK),ord=(fM ord).1++(fM ord).2/\(∀ b∈(fM ord).1,mO b.2.2 b.1=false)/\((fM ord).2=[]\/ ∃a r,(fM ord).2=a::r/\mO a.2.2 a.1=true)
 | []=>⟨rfl,(fun b hb=>by cases hb),.inl rfl⟩
 |a::r=>by
  unfold fM;cases hm:mO a.2.2 a.1 with
  |true=>exact⟨rfl,(fun b hb=>by cases hb),.inr ⟨a,r,rfl,hm⟩⟩
  |false=>
   obtain⟨h1,h2,h3⟩:=tJ r;refine⟨congrArg (a:: ·) h1,fun b hb=> ?_,h3⟩;rcases List.mem_cons.1 hb with rfl|hb
   ·exact hm
   ·exact h2 b hb
theorem EK{L:List aA}{ord:List qK}(h:Gj L ord=true):ve L (su L []) (fM ord).1 ((fM ord).2.map fun y=>y.1):=by
 simp only[Gj,Bool.and_eq_true]at h;obtain⟨⟨⟨⟨h1,h2⟩,h3⟩,h4⟩,h5⟩:=h;refine⟨fun j o hj=> ?_,pS h2,fun b hb=>List.all_eq_true.1 h3 b hb,fun i hi=> ?_,(tJ ord).2.1,fun i hi=> ?_⟩
 ·have hlt:j<L.length:=by
   rcases Nat.lt_or_ge j L.length with h|h
   ·exact h
   ·rw[List.getElem?_eq_none h]at hj;cases hj
  have:=List.all_eq_true.1 h1 j (List.mem_range.2 hlt);rw[hj]at this;simp only[Bool.and_eq_true]at this;refine⟨Nat.eq_of_beq_eq_true this.1,fun k hk=> ?_⟩;have:=List.all_eq_true.1 this.2 k hk;exact Nat.lt_of_succ_le (by simpa[Nat.blt]using this)
 ·have:=List.all_eq_true.1 h4 i (List.mem_range.2 hi)
  rw[Bool.or_eq_true]at this;rcases this with this|this
  ·obtain⟨b,hb,he⟩:=List.any_eq_true.1 this
   exact .inl ⟨b,hb,Nat.eq_of_beq_eq_true he⟩
  ·obtain⟨b,hb,he⟩:=List.any_eq_true.1 this
   exact .inr (List.mem_map.2 ⟨b,hb,Nat.eq_of_beq_eq_true he⟩)
 ·obtain⟨a,ha,rfl⟩:=List.mem_map.1 hi
  have:=List.all_eq_true.1 h5 a ha;unfold Y6 at this;split at this
  ·rename_i o ho
   simp only[Bool.and_eq_true,Bool.or_eq_true,Bool.not_eq_true']at this;exact⟨o,ho,this.1,this.2.1.imp Nat.le_of_ble_eq_true id,fun b hb=>List.all_eq_true.1 this.2.2 b hb⟩
  ·cases this
structure WK(L:List aA)(ms:List Nat)(a b:qK)(oa ob:aA):Prop where
 ne:a.1≠b.1
 dst: ∀t,oa.dst=some t->ob.dst≠some t
 ab: ∀t,oa.dst=some t->t∈ob.reads->Nat.testBit (ms.getD b.1 0) a.1=true
 ba: ∀t,ob.dst=some t->t∈oa.reads->b.2.1=true/\Nat.testBit (ms.getD b.1 0) a.1=true
 st:a.2.1=true->Nat.testBit (ms.getD b.1 0) a.1=true\/JB ob=true\/(vu ob=true/\b.1∈a.2.2)
 rd:a.2.1=false->b.2.1=true->Nat.testBit (ms.getD b.1 0) a.1=true\/oa.op.cls=0\/a.1∈b.2.2
theorem eV{L:List aA}{ms:List Nat}{a b:qK}(h:WI L ms a b=true): ∃oa ob,L[a.1]? =some oa/\L[b.1]? =some ob/\WK L ms a b oa ob:=by
 unfold WI at h;split at h
 ·rename_i oa ob ha hb
  refine⟨oa,ob,ha,hb,?_⟩;simp only[Bool.and_eq_true]at h;obtain⟨⟨⟨⟨h1,h2⟩,h3⟩,h4⟩,h5⟩:=h;refine⟨fun e=>by rw[e]at h1;simp at h1,fun t ht=> ?_,fun t ht hr=> ?_,fun t ht hr=> ?_,fun hs=> ?_,fun hs hb=> ?_⟩
  ·rw[ht]at h2
   simp only[Bool.and_eq_true]at h2;intro e;rw[e]at h2;simp at h2
  ·rw[ht]at h2
   simp only[Bool.and_eq_true,Bool.or_eq_true,Bool.not_eq_true']at h2;rcases h2.2 with h2|h2
   ·rw[nO.2 hr]at h2;cases h2
   ·exact h2
  ·rw[ht]at h3
   simp only[Bool.and_eq_true,Bool.or_eq_true,Bool.not_eq_true']at h3;rcases h3 with h3|h3
   ·rw[nO.2 hr]at h3;cases h3
   ·exact h3
  ·rw[hs]at h4
   simp only[Bool.not_true,Bool.false_or,Bool.or_eq_true,Bool.and_eq_true]at h4;rcases h4 with h4|h4|h4
   ·exact .inl h4
   ·exact .inr (.inl h4)
   ·exact .inr (.inr ⟨h4.1,nO.1 h4.2⟩)
  ·rw[hs,hb]at h5
   simp only[Bool.not_true,Bool.false_or,Bool.or_eq_true]at h5;rcases h5 with h5|h5|h5
   ·exact .inl h5
   ·exact .inr (.inl (Nat.eq_of_beq_eq_true h5))
   ·exact .inr (.inr (nO.1 h5))
 ·cases h
structure EOk(L:List aA)(a:qK)(o:aA):Prop where
 good:o.op.qS=false
 cls:a.2.1=false->o.op.cls<=1
 again:a.2.1=false->a.2.2=[]
 self:a.2.1=false-> ∀t,o.dst=some t->t∉o.reads
 ag: ∀i∈a.2.2,∀oi,L[i]? =some oi->oi.op.cls<=1\/vu oi=true
 lk: ∀i∈a.2.2,∀oi,L[i]? =some oi->vu oi=true-> ∀(q:Nat) (oq:aA) (t:Nat),L[q]? =some oq->oq.dst=some t->t∈oi.reads->JB oq=false/\vu oq=false
theorem kz{L:List aA}{a:qK}(h:WJ L a=true): ∃o,L[a.1]? =some o/\EOk L a o:=by
 unfold WJ at h;split at h
 ·rename_i o ho
  refine⟨o,ho,?_⟩;simp only[Bool.and_eq_true,Bool.or_eq_true,Bool.not_eq_true']at h;obtain⟨⟨⟨h1,h2⟩,h3⟩,h4⟩:=h;refine⟨h1,fun hs=> ?_,fun hs=> ?_,fun hs t ht hr=> ?_,fun i hi oi Qw=> ?_,fun i hi oi Qw hB q oq t hq WM htr=> ?_⟩
  ·rcases h2 with h2|h2
   ·exact Nat.le_of_ble_eq_true h2
   ·rw[hs]at h2;cases h2
  ·rcases h3 with h3|h3
   ·rw[hs]at h3;cases h3
   ·exact List.isEmpty_iff.1 h3.1
  ·rcases h3 with h3|h3
   ·rw[hs]at h3;cases h3
   ·have:=h3.2
    rw[ht]at this;simp only[Bool.not_eq_true']at this;rw[nO.2 hr]at this;cases this
  ·have:=List.all_eq_true.1 h4 i hi
   rw[Qw]at this;simp only[Bool.or_eq_true,Bool.and_eq_true]at this;rcases this with h|h
   ·exact .inl (Nat.le_of_ble_eq_true h)
   ·exact .inr h.1
  ·have:=List.all_eq_true.1 h4 i hi
   rw[Qw]at this;simp only[Bool.or_eq_true,Bool.and_eq_true]at this;rcases this with h|h
   ·have:=Nat.le_of_ble_eq_true h
    rw[AG hB]at this;omega
   ·have:=List.all_eq_true.1 h.2 oq (List.mem_of_getElem? hq)
    rw[WM]at this;simp only[Bool.or_eq_true,Bool.not_eq_true',Bool.or_eq_false_iff]at this;rcases this with h|h
    ·rw[nO.2 htr]at h;cases h
    ·exact h
 ·cases h
section
variable {P:Program} {Γ:bR} {n:Nat} {ops:Array Oper} {ord:List qK} {TT:List Nat} {ms:List Nat} {k:Env->Heap->Prop} {kp:SV->Env->Heap->Prop} {Q:Exit->Act->World->Prop} {c0:Cx} {h0:Heap} {w0:World} {ds:List Deferred}
abbrev LL(P:Program)(n:Nat)(ops:Array Oper):List aA:=ops.toList.map (bD P n ops true)
def Made(L:List aA)(o:aA)(t B:Nat)(w:World)(a:Act):Prop:=
 (JB o=true/\o.reads=[]/\ ∃ty sz v C,o.op= .box ty sz (.const v)/\v.cells.length=sz/\v≠ .undef/\a.tmps.getD t undef= .pointer (some ⟨B,0,none⟩)/\
  w.heap[B]? =some (.cells C ty (0,0))/\C.size=sz/\ ∀(j:Nat) (u:SV) (x:Value),v.cells[j]? =some u->C[j]? =some x-> ∀Im w',VP Im w' u x)\/
 (vu o=true/\(∀ (q:Nat) (oq:aA) (t':Nat),L[q]? =some oq->oq.dst=some t'->t'∈o.reads->JB oq=false/\vu oq=false)/\
  ∃(ty:TypeId) (sz:Nat) (zero:SV) (n:Nat) (ps:List (Nat×Operand)) (C0 C:Array Value),o.op= .buildSlice ty sz zero n (ps.map fun(j,x)=>(j,aD x))/\(∀ (c:Cx) (h:Heap) (w:World),LR c h w sz (List.replicate n zero) C0)/\
   Instr.fill (fun j=>some (j*sz,sz)) C0 (ps.map fun(j,x)=>(j,a.eval x))=some C/\a.tmps.getD t undef= .slice (some ⟨B,0,none⟩) n n/\w.heap[B]? =some (.cells C ty (0,0)))
theorem Made.Qx{L:List aA}{o:aA}{t B:Nat}{w:World}{a:Act}(h:Made L o t B w a):JB o=true\/vu o=true:=by
 rcases h with h|h
 ·exact .inl h.1
 ·exact .inr h.1
theorem Made.nr{L:List aA}{o:aA}{t B:Nat}{w:World}{a:Act}(h:Made L o t B w a){q:Nat}{oq:aA}{t':Nat}(hq:L[q]? =some oq)(ht:oq.dst=some t')(hr:t'∈o.reads):JB oq=false/\vu oq=false:=by
 rcases h with h|h
 ·rw[h.2.1]at hr;cases hr
 ·exact h.2.1 q oq t' hq ht hr
theorem Made.mono{L:List aA}{o:aA}{t B:Nat}{w w':World}{a a':Act}(h:Made L o t B w a)(hw:w'.heap[B]? =w.heap[B]?)(ht: ∀t',t'=t\/t'∈o.reads->a'.tmps.getD t' undef=a.tmps.getD t' undef):Made L o t B w' a':=by
 rcases h with⟨h1,h2,ty,sz,v,C,h3,h4,h5,h6,h7,h8⟩|⟨h1,h2,ty,sz,zero,n,ps,C0,C,h3,h4,h5,h6,h7⟩
 ·exact .inl ⟨h1,h2,ty,sz,v,C,h3,h4,h5,by rw[ht t (.inl rfl)];exact h6,by rw[hw];exact h7,h8⟩
 ·refine .inr ⟨h1,h2,ty,sz,zero,n,ps,C0,C,h3,h4,?_,by rw[ht t (.inl rfl)];exact h6,by rw[hw];exact h7⟩
  have he:(ps.map fun(j,x)=>(j,a'.eval x))=ps.map fun(j,x)=>(j,a.eval x):=by
   refine List.map_congr_left fun p hp=> ?_
   obtain⟨j,x⟩:=p;dsimp only;rw[uL (a:=a) (a':=a') x fun t' ht'=>ht t' (.inr ?_)];unfold aA.reads;rw[h3];refine List.mem_append_left _ (List.mem_flatMap.2 ⟨(j,aD x),List.mem_map.2 ⟨(j,x),hp,rfl⟩,ht'⟩)
  rw[he];exact h5
theorem Made.Xy{P:Program}{Γ:bR}{L:List aA}{o:aA}{t B nn:Nat}{l:List (Nat×ai)}{c:Cx}{w:World}{e:Env}{a:Act}{k kp:SV->Heap->Prop}(hm:Made L o t B w a)
  (hT: ∀t'∈o.reads,VR c ⟨nn,l⟩ w (Env.get e t') (a.tmps.getD t' undef))(hp:bF P Γ o.op e ⟨nn,l⟩ k kp):
  ∃(sz:Nat) (elems:List SV) (ty:TypeId) (C:Array Value) (V:SV),w.heap[B]? =some (.cells C ty (0,0))/\LR c ⟨nn,l⟩ w sz elems C/\k V ⟨nn+1,(nn,.vec 0 sz elems ⟨false,some ty⟩)::l⟩/\
   VR (c.push nn B) ⟨nn+1,(nn,.vec 0 sz elems ⟨false,some ty⟩)::l⟩ w V (a.tmps.getD t undef):=by
 rcases hm with⟨_,_,ty,sz,v,C,hop,hvl,Xz,Qy,hw,Y3,hcell⟩|⟨_,_,ty,sz,zero,n,ps,C0,C,hop,hC0,hf,Qy,hw⟩
 ·rw[hop]at hp
  dsimp only[bF,aY.fe]at hp;obtain⟨_,hp⟩:=dx.1 hp
  replace hp:=ah.1 hp
  obtain⟨_,hp⟩:=hp;refine⟨sz,[v],ty,C,.ref nn 0 0 0,hw,⟨by simpa using Y3,fun v' qT=>by simp only[List.mem_singleton]at qT;subst qT;exact hvl,fun i j e u x he hu hx=> ?_⟩,hp,by rw[Qy];exact Au⟩;cases i with
  |zero=>simp at he;subst he;exact .pure (hcell j u x hu (by simpa using hx) _ _)
  |succ i=>simp at he
 ·rw[hop]at hp
  simp only[bF,kn]at hp
  have hsub: ∀t'∈(ps.map fun(j,x)=>(j,aD x)).flatMap (fun p=>p.2.use),t'∈o.reads:=fun t' ht'=>by
   unfold aA.reads;rw[hop];exact List.mem_append_left _ ht'
  have Qv:ER c ⟨nn,l⟩ w (Env.only o.reads e) a.tmps:=fun t'=>by
   rw[lK];split
   ·exact hT t' ‹_›
   ·exact .undef
  rw[mz (e':=Env.only o.reads e) (fun t' ht'=>by rw[lK,if_pos (hsub t' ht')])]at hp;obtain⟨cs',C',hk',hf',hlr,hlen⟩:=j5 Qv sz ps _ C0 (hC0 _ _ _) hp;rw[hf]at hf';cases hf'
  exact⟨sz,cs',ty,C,.sl nn 0 sz 0 n (some n),hw,hlr,hk',by rw[Qy];exact JV hw (Nat.le_refl _) (by rw[hlr.1,hlen];simp)⟩
structure tK(P:Program)(n:Nat)(ops:Array Oper)(w0:World)(pb:Nat->Nat)(c:Cx)(h:Heap)(w:World)(a:Act)(i:Nat):Prop where
 ex: ∃o t,(LL P n ops)[i]? =some o/\o.dst=some t/\o.guard=none/\Made (LL P n ops) o t (pb i) w a
 ge:w0.heap.size<=pb i
 lt:pb i<w.heap.size
 Kc: ∀j o,h.obj j=some o->c.β j≠pb i
 TQ: ¬c.Im (pb i)
abbrev dO(done:List qK)(i:Nat):Prop:= ∀b∈done,b.1≠i
structure yE(P:Program)(Γ:bR)(n:Nat)(ops:Array Oper)(ord:List qK)(k:Env->Heap->Prop)(kp:SV->Env->Heap->Prop)(c0:Cx)(h0:Heap)(w0:World)(ds:List Deferred)
  (done rest:List qK)(listed:Array Bool)(pb:Nat->Nat)(c:Cx)(h:Heap)(w:World)(e:Env)(a:Act):Prop where
 split:ord=done++rest
 rep:bT c h w
 ext:Ext c0 h0 w0 c h w
 size:a.tmps.size=n
 defers:a.defers=ds
 lsize:listed.size=ops.size
 cont:lF P Γ (LL P n ops) rest e h k kp
 dc: ∀i,listed.getD i false=true->(∃ b∈done,b.1=i)\/tK P n ops w0 pb c h w a i
 Ib: ∀i j,listed.getD i false=true->listed.getD j false=true->dO done i->dO done j->pb i=pb j->i=j
 sd: ∀b∈done,b.2.1=true->listed.getD b.1 false=true
 closed: ∀i,listed.getD i false=true-> ∀o,(LL P n ops)[i]? =some o-> ∀j∈o.pre,listed.getD j false=true
 T: ∀t,(∀ b∈done,listed.getD b.1 false=false-> ∀o,(LL P n ops)[b.1]? =some o->o.dst≠some t)->(∀ i,listed.getD i false=true->dO done i-> ∀o,(LL P n ops)[i]? =some o->o.dst≠some t)->VR c h w (Env.get e t) (a.tmps.getD t undef)
 Pd: ∀b∈done,listed.getD b.1 false=false-> ∀o,(LL P n ops)[b.1]? =some o->lN P Γ o e h
theorem Gk(hF:ve (LL P n ops) ms ord TT): ∀(m j:Nat) {o:aA},j<m->(LL P n ops)[j]? =some o-> ∀i,Nat.testBit (ms.getD j 0) i=true->i<j
 |0,j,o,hj,_,_,_=>by omega
 |m+1,j,o,hj,ho,i,hb=>by
  obtain⟨h1,h2⟩:=hF.mask j o ho;rw[h1]at hb;rcases pR ms i o.pre 0 hb with hb|⟨q,hq,hb⟩
  ·simp at hb
  ·have Y8:=h2 q hq
   rcases hb with rfl|hb
   ·exact Y8
   ·have hjl:j<(LL P n ops).length:=by
     rcases Nat.lt_or_ge j (LL P n ops).length with h|h
     ·exact h
     ·rw[List.getElem?_eq_none h]at ho;cases ho
    have WO:(LL P n ops)[q]? =some (LL P n ops)[q]:=List.getElem?_eq_getElem (by omega);have:=Gk hF m q (by omega) WO i hb;omega
theorem oE(hF:ve (LL P n ops) ms ord TT){listed:Array Bool}(eD: ∀i,listed.getD i false=true-> ∀o,(LL P n ops)[i]? =some o-> ∀j∈o.pre,listed.getD j false=true):
  ∀(m j:Nat) (o:aA),j<m->(LL P n ops)[j]? =some o->(∀ i∈o.pre,listed.getD i false=true)-> ∀i,Nat.testBit (ms.getD j 0) i=true->listed.getD i false=true
 |0,j,o,hj,_,_,_,_=>by omega
 |m+1,j,o,hj,ho,hpre,i,hb=>by
  obtain⟨h1,h2⟩:=hF.mask j o ho;rw[h1]at hb;rcases pR ms i o.pre 0 hb with hb|⟨q,hq,hb⟩
  ·simp at hb
  ·rcases hb with rfl|hb
   ·exact hpre _ hq
   ·have Y8:=h2 q hq
    have hjl:j<(LL P n ops).length:=by
     rcases Nat.lt_or_ge j (LL P n ops).length with h|h
     ·exact h
     ·rw[List.getElem?_eq_none h]at ho;cases ho
    have WO:(LL P n ops)[q]? =some (LL P n ops)[q]:=List.getElem?_eq_getElem (by omega);exact oE hF eD m q _ (by omega) WO (eD q (hpre q hq) _ WO) i hb
theorem Nl{o:aA}(h:JB o=true):o.op.cls=2:=by
 obtain⟨t,ty,sz,v,pre,rfl,_⟩:=AF h;rfl
theorem mS(hF:ve (LL P n ops) ms ord TT){done rest:List qK}(hs:ord=done++rest){b:qK}(hb:b∈rest):dO done b.1:=by
 intro b' hb' he;have Po:=hF.pw;rw[hs,List.pairwise_append]at Po;obtain⟨oa,ob,_,_,hr⟩:=eV (Po.2.2 b' hb' b hb);exact hr.ne he
theorem Ke(hF:ve (LL P n ops) ms ord TT){done rest:List qK}{listed:Array Bool}{pb:Nat->Nat}{c:Cx}{h:Heap}{w:World}{e:Env}{a:Act}(hd:yE P Γ n ops ord k kp c0 h0 w0 ds done rest listed pb c h w e a){b:qK}(hb:b∈rest)
  {o:aA}(ho:(LL P n ops)[b.1]? =some o)(hc:o.op.cls<=1):listed.getD b.1 false=false:=by
 cases hl:listed.getD b.1 false with
 |false=>rfl
 |true=>
  rcases hd.dc b.1 hl with⟨b',hb',he⟩|hp
  ·exact absurd he (mS hF hd.split hb b' hb')
  ·obtain⟨o',t,oY,_,_,hm⟩:=hp.ex
   rw[ho]at oY;cases oY
   rcases hm.Qx with h|h
   ·rw[Nl h]at hc;omega
   ·rw[AG h]at hc;omega
theorem wH(hF:ve (LL P n ops) ms ord TT){listed:Array Bool}(eD: ∀i,listed.getD i false=true-> ∀o,(LL P n ops)[i]? =some o-> ∀j∈o.pre,listed.getD j false=true){p:Nat}(hp:listed.getD p false=true){o:aA}(ho:(LL P n ops)[p]? =some o):
  ∀q,Nat.testBit (ms.getD p 0) q=true->listed.getD q false=true:=
 oE hF eD (p+1) p o (Nat.lt_succ_self _) ho (eD p hp o ho)
theorem tK.mono{pb:Nat->Nat}{c c':Cx}{h h':Heap}{w w':World}{a a':Act}{i:Nat}(hp:tK P n ops w0 pb c h w a i)(hx:Ext c h w c' h' w')
  (hs: ∀o t,(LL P n ops)[i]? =some o->o.dst=some t\/t∈o.reads->a'.tmps.getD t undef=a.tmps.getD t undef):tK P n ops w0 pb c' h' w' a' i:=by
 obtain⟨⟨o,t,oY,eA,hg,hm⟩,hge,hlt,hnn,hni⟩:=hp;refine⟨⟨o,t,oY,eA,hg,hm.mono (hx.frame _ hlt hnn) fun t' ht'=>hs o t' oY (ht'.imp (fun h=>by rw[h];exact eA) fun h=>h)⟩,hge,Nat.lt_of_lt_of_le hlt hx.size,fun j o' ho' he=> ?_,fun hb=> ?_⟩
 ·rcases hx.new j o' ho' with h1|⟨o,ho,h1⟩
  ·omega
  ·exact hnn j o ho (h1▸he)
 ·rcases hx.im' _ hb with h1|h1|⟨j,o,ho,h1⟩
  ·exact hni h1
  ·omega
  ·exact hnn j o ho h1
theorem VR.name{c:Cx}{nn:Nat}{l:List (Nat×ai)}{w:World}(ob:ai)(B:Nat){v:SV}{x:Value}(h:VR c ⟨nn,l⟩ w v x):VR (c.push nn B) ⟨nn+1,(nn,ob)::l⟩ w v x:=by
 induction h with
 |pure h=>exact .pure h
 |ref i g idx sub x hx hi hg h=>
  have hi':i<nn:=hi;refine .ref _ _ _ _ _ hx (Nat.lt_succ_of_lt hi') (fun o ho=> ?_) fun o ho hgo=> ?_
  ·rw[cG,if_neg (by omega)]at ho;exact hg o ho
  ·rw[cG,if_neg (by omega)]at ho
   rw[h o ho hgo];simp[Cx.push];omega
 |sl i g sz off len cap x hx hi hg h=>
  have hi':i<nn:=hi;refine .sl _ _ _ _ _ _ _ hx (Nat.lt_succ_of_lt hi') (fun o ho=> ?_) fun o ho hgo=> ?_
  ·rw[cG,if_neg (by omega)]at ho;exact hg o ho
  ·rw[cG,if_neg (by omega)]at ho
   have hb:(c.push nn B).β i=c.β i:=by simp[Cx.push];omega
   rw[hb];exact h o ho hgo
 |cW i g x hx hi hg h=>
  have hi':i<nn:=hi;refine .cW _ _ _ hx (Nat.lt_succ_of_lt hi') (fun o ho=> ?_) fun o ho hgo=> ?_
  ·rw[cG,if_neg (by omega)]at ho;exact hg o ho
  ·rw[cG,if_neg (by omega)]at ho
   rw[h o ho hgo];simp[Cx.push];omega
 |iface t v x _ ih=>exact .iface _ _ _ ih
 |agg l cs hl _ ih=>exact .agg _ _ hl ih
 |bn l cs hl _ ih=>exact .bn _ _ hl ih
 |func fn a b a' b' ha hb _ _ ih Ak=>exact .func _ _ _ _ _ ha hb ih Ak
theorem Kf(hF:ve (LL P n ops) ms ord TT){done r:List qK}{listed:Array Bool}{pb:Nat->Nat}{c:Cx}{h:Heap}{w:World}{e:Env}{a:Act}{j:Nat}{ag:List Nat}
  (hd:yE P Γ n ops ord k kp c0 h0 w0 ds done ((j,false,ag)::r) listed pb c h w e a): ∃e',yE P Γ n ops ord k kp c0 h0 w0 ds (done++[(j,false,ag)]) r listed pb c h w e' a:=by
 have hmem:(j,false,ag)∈ord:=by rw[hd.split];simp
 obtain⟨o,ho,hE⟩:=kz (hF.Pn _ hmem);have hag:ag=[]:=hE.again rfl;subst hag;have hnew:=Ke hF hd (b:=(j,false,[])) (by simp) ho (hE.cls rfl);have ep:=hd.cont;rw[jq _ _ _ _ _ _ _ _ _ _ _ (hF.un _ hmem)]at ep;rw[cM]at ep;have ho':(LL P n ops)[j]? =some o:=ho;rw[ho']at ep;dsimp only at ep
 replace ep:=(jw ep).1
 have Po:=hF.pw;rw[hd.split,List.pairwise_append]at Po
 have hR: ∀b∈done,∃ob,(LL P n ops)[b.1]? =some ob/\WK (LL P n ops) ms b (j,false,[]) ob o:=fun b hb=>by
  obtain⟨oa,ob,h1,h2,h3⟩:=eV (Po.2.2 b hb (j,false,[]) (by simp));have pn:(LL P n ops)[j]? =some ob:=h2;rw[ho']at pn;cases pn
  exact⟨oa,h1,h3⟩
 have fin: ∀(e1:Env) (v:SV),Pj e e1->((ku e o.guard=some true/\ ∀K' fA:SV->Heap->Prop,K' v h->bF P Γ o.op e1 h K' fA)\/(ku e o.guard=some false/\v= .bn []))->lF P Γ (LL P n ops) r (pJ e1 o.dst v) h k kp->
   ∃e',yE P Γ n ops ord k kp c0 h0 w0 ds (done++[(j,false,[])]) r listed pb c h w e' a:=by
  intro e1 v wI pV hc;have hU: ∀t,o.dst≠some t->Env.get (pJ e1 o.dst v) t=Env.get e t:=fun t ht=>by rw[(nQ e1 o.dst v t).2 ht,<-wI]
  have hread: ∀t∈o.reads,Env.get e t=Env.get (pJ e1 o.dst v) t:=fun t ht=>(hU t fun eA=>hE.self rfl t eA ht).symm
  refine⟨_,by rw[hd.split];simp,hd.rep,hd.ext,hd.size,hd.defers,hd.lsize,hc,fun i hi=> ?_,fun i i' hi hi' hu rK=>hd.Ib i i' hi hi' (fun b hb=>hu b (by simp[hb])) (fun b hb=>rK b (by simp[hb])),fun b hb hs=> ?_,hd.closed,fun t ht MU=> ?_,fun b hb hl ob bZ=> ?_⟩
  ·rcases hd.dc i hi with⟨b,hb,he⟩|hp
   ·exact .inl ⟨b,by simp[hb],he⟩
   ·exact .inr hp
  ·rcases List.mem_append.1 hb with hb|hb
   ·exact hd.sd b hb hs
   ·simp only[List.mem_singleton]at hb;subst hb;cases hs
  ·have hne:o.dst≠some t:=ht (j,false,[]) (by simp) hnew o ho
   rw[hU t hne];refine hd.T t (fun b hb=>ht b (by simp[hb])) fun i hi hu=>MU i hi fun b hb=> ?_
   rcases List.mem_append.1 hb with hb|hb
   ·exact hu b hb
   ·simp only[List.mem_singleton]at hb
    subst hb;intro he;have he':j=i:=he;subst he';rw[hi]at hnew;cases hnew
  ·rcases List.mem_append.1 hb with hb|hb
   ·obtain⟨Xv,sr,hr⟩:=hR b hb
    rw[bZ]at sr;cases sr
    refine(hd.Pd b hb hl ob bZ).congr (fun t ht=>(hU t fun eA=> ?_).symm) (fun t ht=>(hU t fun eA=>hr.dst t ht eA).symm);have:=(hr.ba t eA ht).1;cases this
   ·simp only[List.mem_singleton]at hb
    subst hb;have sr:(LL P n ops)[j]? =some ob:=bZ;rw[ho']at sr;cases sr
    refine⟨v,fun t ht=>by rw[(nQ e1 o.dst v t).1 ht];exact .refl _,?_⟩;rw[<- pT hread];rcases pV with⟨h1,h2⟩|h1
    ·exact .inl ⟨h1,fun K' fA hk=>by rw[<- jx hread,jx (fun t _=>wI t)];exact h2 K' fA hk⟩
    ·exact .inr h1
 rcases lJ ep with⟨hw,e1,wI,hp⟩|⟨hw,e1,wI,hp⟩
 ·obtain⟨v,hv,XA⟩:=wG (hE.cls rfl) hp
  rw[gZ]at hv;exact fin e1 v wI (.inl ⟨hw,XA⟩) hv
 ·rw[gZ]at hp
  exact fin e1 _ wI (.inr ⟨hw,rfl⟩) hp
theorem Kg(gd:Γ.Ok P)(hF:ve (LL P n ops) ms ord TT){done r:List qK}{listed:Array Bool}{pb:Nat->Nat}{c:Cx}{h:Heap}{w:World}{e:Env}{a:Act}{j:Nat}{ag:List Nat}(hl:listed.getD j false=true)
  (hd:yE P Γ n ops ord k kp c0 h0 w0 ds done ((j,true,ag)::r) listed pb c h w e a): ∃c' h' e',yE P Γ n ops ord k kp c0 h0 w0 ds (done++[(j,true,ag)]) r listed pb c' h' w e' a:=by
 have hmem:(j,true,ag)∈ord:=by rw[hd.split];simp
 obtain⟨o,ho,hE⟩:=kz (hF.Pn _ hmem);have hun:dO done j:=mS hF hd.split (b:=(j,true,ag)) (by simp);rcases hd.dc j hl with⟨b,hb,he⟩|uE
 ·exact absurd he (hun b hb)
 obtain⟨⟨o2,t,oY,eA,hgd,hm⟩,hge,hlt,hnn,hni⟩:=uE;have ho':(LL P n ops)[j]? =some o:=ho;rw[ho']at oY;obtain rfl:=Option.some.inj oY;have vf:=wH hF hd.closed hl ho';have Po:=hF.pw;rw[hd.split,List.pairwise_append]at Po
 have hR: ∀b∈done,∃ob,(LL P n ops)[b.1]? =some ob/\WK (LL P n ops) ms b (j,true,ag) ob o:=fun b hb=>by
  obtain⟨oa,ob,h1,h2,h3⟩:=eV (Po.2.2 b hb (j,true,ag) (by simp));have pn:(LL P n ops)[j]? =some ob:=h2;rw[ho']at pn;cases pn
  exact⟨oa,h1,h3⟩
 have ep:=hd.cont;rw[jq _ _ _ _ _ _ _ _ _ _ _ (hF.un _ hmem)]at ep;rw[cM]at ep;rw[ho']at ep;dsimp only at ep
 replace ep:=(jw ep).1
 rw[hgd]at ep;dsimp only[fK]at ep;obtain⟨nn,l⟩:=h
 have hTr: ∀t'∈o.reads,VR c ⟨nn,l⟩ w (Env.get e t') (a.tmps.getD t' undef):=fun t' ht'=>by
  refine hd.T t' (fun b hb hl' o' vw mA=> ?_) fun p hp uM op hop mA=> ?_
  ·obtain⟨ob,bZ,hr⟩:=hR b hb
   rw[vw]at bZ;cases bZ
   rw[vf _ (hr.ab t' mA ht')]at hl';cases hl'
  ·have h1:=hm.nr hop mA ht'
   rcases hd.dc p hp with⟨b,hb,he⟩|TO
   ·exact absurd he (uM b hb)
   ·obtain⟨o3,t3,Pp,_,_,TR⟩:=TO.ex
    rw[hop]at Pp;cases Pp
    rcases TR.Qx with h|h
    ·rw[h1.1]at h;cases h
    ·rw[h1.2]at h;cases h
 obtain⟨sz,elems,ty,C,V,hw,hlr,ep,hVt⟩:=hm.Xy hTr ep;rw[eA]at ep;rw[gZ]at ep;obtain⟨hc,hag⟩:=jy gd (fun q hq oi Qw=>hE.ag q hq oi Qw) ep;have WQ: ∀ {v':SV} {x:Value},VR c ⟨nn,l⟩ w v' x->VR (c.push nn (pb j)) ⟨nn+1,(nn,.vec 0 sz elems ⟨false,some ty⟩)::l⟩ w v' x:=fun hv=>hv.name _ _
 have mL: ∀i,i≠nn->(c.push nn (pb j)).β i=c.β i:=fun i hi=>by simp[Cx.push,hi]
 have qL:(c.push nn (pb j)).β nn=pb j:=by simp[Cx.push]
 have jn: ∀b o',OR c ⟨nn,l⟩ w b o'->OR (c.push nn (pb j)) ⟨nn+1,(nn,.vec 0 sz elems ⟨false,some ty⟩)::l⟩ w b o':=by
  intro b o' ho';cases ho' with
  |vec g sz' elems sk C ty fz hw hle heq hty hc hf hcell=>exact .vec g sz' elems sk C ty fz hw hle heq hty hc hf fun i j e v x h1 h2 h3=>WQ (hcell i j e v x h1 h2 h3)
  |iter s pos hw=>exact .iter s pos hw
  |map es cl hw hs=>exact .map es cl hw hs
  |cy m since seen stepped r hw hm=>exact .cy m since seen stepped r hw (WQ hm)
  |kf g ty xs C fz hw hle hc=>exact .kf g ty xs C fz hw hle hc
 have XB: ∀i o',ak l i=some o'->i<nn:=fun i o' ho'=>hd.rep.lt i o' ho'
 have EL:bT (c.push nn (pb j)) ⟨nn+1,(nn,.vec 0 sz elems ⟨false,some ty⟩)::l⟩ w:=by
  refine⟨fun i o' ho'=> ?_,fun i o' ho'=> ?_,fun i i' o' p' ho' hp' he=> ?_,fun i o' ho'=> ?_,hd.rep.im,hd.rep.dj⟩
  ·rw[cG]at ho'
   by_cases hi:nn=i
   ·subst hi;exact Nat.lt_succ_self _
   ·rw[if_neg hi]at ho';exact Nat.lt_succ_of_lt (XB i o' ho')
  ·rw[cG]at ho'
   by_cases hi:nn=i
   ·subst hi
    rw[if_pos rfl]at ho';cases ho'
    rw[qL];exact .vec 0 sz elems ⟨false,some ty⟩ C ty (0,0) hw (by rw[hlr.1];exact Nat.le_refl _) (fun _=>hlr.1.symm) (fun _ h=>(Option.some.inj h).symm) hlr.2.1 (by simp) fun i j' e' u x he hu hx=>WQ (hlr.2.2 i j' e' u x he hu hx)
   ·rw[if_neg hi]at ho'
    rw[mL i (fun e=>hi e.symm)];exact jn _ _ (hd.rep.obj i o' ho')
  ·rw[cG]at ho' hp'
   by_cases hi:nn=i
   ·by_cases hi':nn=i'
    ·omega
    ·rw[if_neg hi']at hp'
     rw[<- hi,qL,mL i' (fun e=>hi' e.symm)]at he;exact absurd he.symm (hnn i' p' hp')
   ·rw[if_neg hi]at ho'
    by_cases hi':nn=i'
    ·rw[<- hi',qL,mL i (fun e=>hi e.symm)]at he
     exact absurd he (hnn i o' ho')
    ·rw[if_neg hi']at hp'
     rw[mL i (fun e=>hi e.symm),mL i' (fun e=>hi' e.symm)]at he;exact hd.rep.inj i i' o' p' ho' hp' he
  ·rw[cG]at ho'
   by_cases hi:nn=i
   ·rw[<- hi,qL];exact hni
   ·rw[if_neg hi]at ho'
    rw[mL i (fun e=>hi e.symm)];exact hd.rep.apart i o' ho'
 have kA:Ext c0 h0 w0 (c.push nn (pb j)) ⟨nn+1,(nn,.vec 0 sz elems ⟨false,some ty⟩)::l⟩ w:=by
  have hx:=hd.ext;refine⟨hx.os,hx.tape,hx.output,hx.size,hx.frame,hx.shape,hx.im,hx.im',Nat.le_succ_of_le hx.cI,fun i o' hi ho'=> ?_,fun i o' ho'=> ?_⟩
  ·have hxn:h0.cI<=nn:=hx.cI
   rw[cG,if_neg (by omega)]at ho';obtain⟨o2,h1,h2,h3,h4⟩:=hx.old i o' hi ho';exact⟨o2,h1,h2,h3,fun e=>by rw[mL i (by omega)];exact h4 e⟩
  ·rw[cG]at ho'
   by_cases hi:nn=i
   ·left;rw[<- hi,qL];exact hge
   ·rw[if_neg hi]at ho'
    rw[mL i (fun e=>hi e.symm)];exact hx.new i o' ho'
 have hU: ∀t',t≠t'->Env.get (pJ e (some t) V) t'=Env.get e t':=fun t' ht=>(nQ e (some t) _ t').2 (fun e=>ht (Option.some.inj e))
 refine⟨_,_,_,by rw[hd.split];simp,EL,kA,hd.size,hd.defers,hd.lsize,hc,fun i hi=> ?_,fun i i' hi hi' hu rK=>hd.Ib i i' hi hi' (fun b hb=>hu b (by simp[hb])) (fun b hb=>rK b (by simp[hb])),fun b hb hs=> ?_,hd.closed,fun t' ht MU=> ?_,fun b hb hl' ob bZ=> ?_⟩
 ·by_cases hex: ∃b∈done,b.1=i
  ·obtain⟨b,hb,he⟩:=hex
   exact .inl ⟨b,by simp[hb],he⟩
  ·have WR:dO done i:=fun b hb he=>hex ⟨b,hb,he⟩
   by_cases hij:i=j
   ·exact .inl ⟨(j,true,ag),by simp,hij.symm⟩
   ·rcases hd.dc i hi with h1|hp
    ·exact absurd h1 hex
    ·refine .inr ⟨hp.ex,hp.ge,hp.lt,fun q o' ho'=> ?_,hp.TQ⟩
     rw[cG]at ho';by_cases hq:nn=q
     ·rw[<- hq,qL]
      intro he;exact hij (hd.Ib i j hi hl WR hun he.symm)
     ·rw[if_neg hq]at ho'
      rw[mL q (fun e=>hq e.symm)];exact hp.Kc q o' ho'
 ·rcases List.mem_append.1 hb with hb|hb
  ·exact hd.sd b hb hs
  ·simp only[List.mem_singleton]at hb;subst hb;exact hl
 ·by_cases XC:t=t'
  ·subst XC
   rw[(nQ e (some t) V t).1 rfl];exact hVt
  ·rw[hU t' XC]
   refine WQ (hd.T t' (fun b hb=>ht b (by simp[hb])) fun i hi hu o3 XD=> ?_);by_cases hij:i=j
   ·rw[hij,ho']at XD
    cases XD
    rw[eA];exact fun e=>XC (Option.some.inj e)
   ·refine MU i hi (fun b hb=> ?_) o3 XD
    rcases List.mem_append.1 hb with hb|hb
    ·exact hu b hb
    ·simp only[List.mem_singleton]at hb;subst hb
     exact fun e=>hij e.symm
 ·rcases List.mem_append.1 hb with h|h
  ·obtain⟨Xv,sr,hr⟩:=hR b h
   rw[bZ]at sr;cases sr
   have hold:lN P Γ ob (pJ e (some t) V) ⟨nn,l⟩:=(hd.Pd b h hl' ob bZ).congr (fun t' ht=>(hU t' fun mA=>by
    have:=(hr.ba t (by rw[eA]) (mA▸ht)).2;rw[vf _ this]at hl';cases hl').symm) fun t' ht=>(hU t' fun mA=>hr.dst t' ht (by rw[eA,mA])).symm
   have hns:b.2.1=false:=by
    cases hs:b.2.1 with
    |false=>rfl
    |true=>rw[hd.sd b h hs]at hl';cases hl'
   rcases hr.rd hns rfl with h1|h1|h1
   ·rw[vf _ h1]at hl';cases hl'
   ·exact hold.heap h1
   ·obtain⟨v',q1,q2⟩:=hold
    rcases q2 with⟨q2,_⟩|q2
    ·obtain⟨ob2,Kh,XE⟩:=kz (hF.Pn b (by rw[hd.split];simp[h]))
     rw[bZ]at Kh;cases Kh
     exact hag _ h1 ob bZ (XE.cls hns) q2
    ·exact⟨v',q1,.inr q2⟩
  ·simp only[List.mem_singleton]at h;subst h
   have u7:listed.getD j false=false:=hl';rw[hl]at u7;cases u7
theorem advance(gd:Γ.Ok P)(hF:ve (LL P n ops) ms ord TT): ∀(rest done:List qK) {listed:Array Bool} {pb:Nat->Nat} {c:Cx} {h:Heap} {w:World} {e:Env} {a:Act},yE P Γ n ops ord k kp c0 h0 w0 ds done rest listed pb c h w e a->
  ∃done' rest' c' h' e',yE P Γ n ops ord k kp c0 h0 w0 ds done' rest' listed pb c' h' w e' a/\(rest'=[]\/ ∃j ag r,rest'=(j,true,ag)::r/\listed.getD j false=false)
 | [],done,listed,pb,c,h,w,e,a,hd=>⟨done,[],c,h,e,hd,.inl rfl⟩
 |(j,true,ag)::r,done,listed,pb,c,h,w,e,a,hd=>by
  cases hl:listed.getD j false with
  |false=>exact⟨done,_,c,h,e,hd,.inr ⟨j,ag,r,rfl,hl⟩⟩
  |true=>
   obtain⟨c',h',e',hd'⟩:=Kg gd hF hl hd;exact advance gd hF r _ hd'
 |(j,false,ag)::r,done,listed,pb,c,h,w,e,a,hd=>by
  obtain⟨e',hd'⟩:=Kf hF hd;exact advance gd hF r _ hd'
end
theorem lO(listed:Array Bool)(i j:Nat)(hi:i<listed.size):(listed.setIfInBounds i true).getD j false=if j=i then true else listed.getD j false:=by
 rw[Array.getD_eq_getD_getElem?,Array.getElem?_setIfInBounds];by_cases h:j=i
 ·subst h;simp[hi]
 ·rw[if_neg (fun e=>h e.symm),if_neg h,Array.getD_eq_getD_getElem?]
def JC(n:Nat)(listed:Array Bool):Nat:=((List.range n).filter fun i=> !listed.getD i false).length
theorem Cy{n:Nat}{listed:Array Bool}(h:JC n listed=0): ∀i,i<n->listed.getD i false=true:=by
 intro i hi;unfold JC at h;have:=List.eq_nil_of_length_eq_zero h;rw[List.filter_eq_nil_iff]at this;have:=this i (List.mem_range.2 hi);simpa using this
theorem filter_lt{α:Type}(p q:α->Bool): ∀(l:List α),(∀ x∈l,q x=true->p x=true)->(∃ x∈l,p x=true/\q x=false)->(l.filter q).length<(l.filter p).length
 | [],_,⟨x,hx,_⟩=>by cases hx
 |y::r,hpq,⟨x,hx,hpx,Y9⟩=>by
  have hle: ∀l:List α,(∀ x∈l,q x=true->p x=true)->(l.filter q).length<=(l.filter p).length:=by
   intro l
   induction l with
   |nil=>intro _;simp
   |cons z l ih=>
    intro hl;have:=ih fun x hx=>hl x (by simp[hx])
    simp only[List.filter_cons];cases hq:q z
    ·cases hp:p z<;>simp<;>omega
    ·rw[hl z (by simp) hq];simp;omega
  rcases List.mem_cons.1 hx with rfl|hx'
  ·simp only[List.filter_cons,hpx,Y9]
   have:=hle r fun x hx=>hpq x (by simp[hx])
   simp;omega
  ·have ih:=filter_lt p q r (fun x hx=>hpq x (by simp[hx])) ⟨x,hx',hpx,Y9⟩
   simp only[List.filter_cons];cases hq:q y
   ·cases hp:p y<;>simp<;>omega
   ·rw[hpq y (by simp) hq];simp;omega
theorem Gl{n:Nat}{listed:Array Bool}{i:Nat}(hi:i<n)(hs:i<listed.size)(hl:listed.getD i false=false):JC n (listed.setIfInBounds i true)<JC n listed:=by
 unfold JC;refine filter_lt _ _ _ (fun j _ hj=> ?_) ⟨i,List.mem_range.2 hi,by simpa using hl,by rw[lO _ _ _ hs];simp⟩;rw[lO _ _ _ hs]at hj;by_cases h:j=i
 ·subst h;simp at hj
 ·rw[if_neg h]at hj;exact hj
theorem tL{P:Program}{n:Nat}{ops:Array Oper}{i:Nat}(hi:i<ops.size):(LL P n ops)[i]? =some (bD P n ops true ops[i]):=by
 simp[LL,hi]
theorem wJ{P:Program}{n:Nat}{ops:Array Oper}:(LL P n ops).length=ops.size:=by simp[LL]
theorem Cz(e:Edge):ki e=Region.binds .any e:=by
 unfold ki Region.binds;cases e.ground<;>rfl
section
variable {P:Program} {Γ:bR} {n:Nat} {ops:Array Oper} {ord:List qK} {TT:List Nat} {ms:List Nat} {k:Env->Heap->Prop} {kp:SV->Env->Heap->Prop} {Q:Exit->Act->World->Prop} {c0:Cx} {h0:Heap} {w0:World} {ds:List Deferred}
theorem lP{listed:Array Bool}{i:Nat}(hs:listed.size=ops.size)(hi:i∈Region.ready .any ops listed): ∃hlt:i<ops.size,listed.getD i false=false/\ ∀e∈(ops[i]).after.toList,ki e=true->listed.getD e.on false=true:=by
 unfold Region.ready at hi;obtain⟨h1,h2⟩:=List.mem_filter.1 hi;have hlt:=List.mem_range.1 h1;refine⟨hlt,?_⟩;simp only[Bool.and_eq_true,Bool.not_eq_true']at h2;have hlt':i<listed.size:=by omega
 have e1: ∀d,listed.getD i d=listed[i]:=fun d=>by simp[Array.getD_eq_getD_getElem?,hlt']
 refine⟨by rw[e1];rw[e1]at h2;exact h2.1,fun e he hb=> ?_⟩;have h3:=h2.2;rw[Array.getElem?_eq_getElem hlt]at h3;simp only[Option.map_some,Option.getD_some]at h3;rw[<- Array.all_toList]at h3;have:=List.all_eq_true.1 h3 e he;rw[<- Cz,hb]at this;simpa using this
theorem rL(hF:ve (LL P n ops) ms ord TT){listed:Array Bool}(hs:listed.size=ops.size)(hr:Region.ready .any ops listed=[]): ∀(m i:Nat),i<m->i<ops.size->listed.getD i false=true
 |0,i,h,_=>by omega
 |m+1,i,h,hi=>by
  cases hl:listed.getD i false with
  |true=>rfl
  |false=>
   exfalso
   have hmem:i∈Region.ready .any ops listed:=by
    unfold Region.ready;refine List.mem_filter.2 ⟨List.mem_range.2 hi,?_⟩;have hlt':i<listed.size:=by omega
    have e1: ∀d,listed.getD i d=listed[i]:=fun d=>by simp[Array.getD_eq_getD_getElem?,hlt']
    rw[e1]at hl;simp only[e1,hl,Bool.not_false,Bool.true_and];rw[Array.getElem?_eq_getElem hi];simp only[Option.map_some,Option.getD_some];rw[<- Array.all_toList];refine List.all_eq_true.2 fun e he=> ?_
    cases hb:Region.binds .any e with
    |false=>rfl
    |true=>
     have CA:(bD P n ops true ops[i]).op.qS=false:=by
      rcases hF.all i (by rw[wJ];exact hi)with⟨b,AH,tM⟩|hT
      ·obtain⟨o,ho,hE⟩:=kz (hF.Pn b AH)
       rw[tM,tL hi]at ho;cases ho
       exact hE.good
      ·obtain⟨o,ho,hg,_⟩:=hF.tail i hT
       rw[tL hi]at ho;cases ho
       exact hg
     obtain⟨_,_,_,hpre,_⟩:=nP CA
     have XF:e.on∈(bD P n ops true ops[i]).pre:=by
      rw[hpre];exact List.mem_filterMap.2 ⟨e,he,by rw[Cz,hb];rfl⟩
     have hlt:=(hF.mask i _ (tL hi)).2 _ XF;have:=rL hF hs hr m e.on (by omega) (by omega);simpa using this
   rw[hr]at hmem;cases hmem
theorem TS(gd:Γ.Ok P)(hF:ve (LL P n ops) ms ord TT)
  (hK: ∀(fuel:Nat) (listed:Array Bool) (e:Env) (h:Heap) (c:Cx) (a:Act) (w:World),JC ops.size listed<=fuel->listed.size=ops.size->(∀ i,i<ops.size->i∉TT->listed.getD i false=true)->(∀ i∈TT,listed.getD i false=false)->
   k e h->bT c h w->Ext c0 h0 w0 c h w->ER c h w e a.tmps->a.tmps.size=n->a.defers=ds->wpAny P .any ops Q fuel listed a w)
  (XG: ∀v x e h c a w,kp v e h->bT c h w->Ext c0 h0 w0 c h w->ER c h w e a.tmps->a.tmps.size=n->a.defers=ds->VR c h w v x->Q (.panic [{v:=x,recovered:=false}]) a w)(zh:bT c0 h0 w0):
  ∀(fuel:Nat) (done rest:List qK) (listed:Array Bool) (pb:Nat->Nat) (c:Cx) (h:Heap) (w:World) (e:Env) (a:Act),(∀ i∈TT,listed.getD i false=false)->JC ops.size listed<=fuel->yE P Γ n ops ord k kp c0 h0 w0 ds done rest listed pb c h w e a->wpAny P .any ops Q fuel listed a w:=by
 have Pq: ∀b∈ord,b.1<ops.size:=fun b hb=>by
  obtain⟨o,ho,_⟩:=kz (hF.Pn b hb);rcases Nat.lt_or_ge b.1 (LL P n ops).length with h|h
  ·rw[wJ]at h;exact h
  ·rw[List.getElem?_eq_none h]at ho;cases ho
 have Pr: ∀b∈ord,b.1∉TT:=fun b hb hT=>by
  obtain⟨o,ho,_,_,h2⟩:=hF.tail _ hT;have h3:=h2 b hb;have:=Gk hF (b.1+1) b.1 (Nat.lt_succ_self _) ho b.1 h3;omega
 have hend: ∀(fuel:Nat) (done rest:List qK) (listed:Array Bool) (pb:Nat->Nat) (c:Cx) (h:Heap) (w:World) (e:Env) (a:Act),(∀ i,i<ops.size->i∉TT->listed.getD i false=true)->(∀ i∈TT,listed.getD i false=false)->JC ops.size listed<=fuel->yE P Γ n ops ord k kp c0 h0 w0 ds done rest listed pb c h w e a->wpAny P .any ops Q fuel listed a w:=by
  intro fuel done rest listed pb c h w e a hall MV hu hd;obtain⟨done',rest',c',h',e',hd',jn⟩:=advance gd hF rest done hd
  have yx:rest'=[]:=by
   rcases jn with h|⟨j,ag,r,rfl,h1⟩
   ·exact h
   ·have EM:(j,true,ag)∈ord:=by rw[hd'.split];simp
    have h2:=hall j (Pq _ EM) (Pr _ EM);rw[h2]at h1;cases h1
  subst yx;have hc:=hd'.cont
  exact hK fuel listed e' h' c' a w hu hd'.lsize hall MV hc hd'.rep hd'.ext (fun t=>hd'.T t (fun b hb hl=>by
   have AH:b∈ord:=by rw[hd'.split];simp[hb]
   have:=hall b.1 (Pq b AH) (Pr b AH);rw[this]at hl;cases hl) fun i hi hu o ho=>by
   have hil:i<(LL P n ops).length:=by
    rcases Nat.lt_or_ge i (LL P n ops).length with h|h
    ·exact h
    ·rw[List.getElem?_eq_none h]at ho;cases ho
   rcases hF.all i hil with⟨b,hb,he⟩|hT
   ·rw[hd'.split,List.append_nil]at hb
    exact absurd he (hu b hb)
   ·rw[MV i hT]at hi;cases hi) hd'.size hd'.defers
 intro fuel
 induction fuel with
 |zero=>
  intro done rest listed pb c h w e a MV hu hd;have hall:=Cy (Nat.le_zero.1 hu);exact hend 0 done rest listed pb c h w e a (fun i hi _=>hall i hi) MV hu hd
 |succ fuel ih=>
  intro done rest listed pb c h w e a MV hu hd;by_cases Ki: ∀i,i<ops.size->i∉TT->listed.getD i false=true
  ·exact hend (fuel+1) done rest listed pb c h w e a Ki MV hu hd
  refine⟨fun hr=>absurd (fun i hi _=>rL hF hd.lsize hr (i+1) i (Nat.lt_succ_self _) hi) Ki,fun i hi=> ?_⟩;obtain⟨hlt,hl,hpre⟩:=lP hd.lsize hi;obtain⟨done',rest',c1,h1,e',hd',jn⟩:=advance gd hF rest done hd;clear hd;clear c h;revert hd';generalize y8:c1=c;generalize hh1:h1=h;intro hd';clear y8 hh1 c1 h1;have oY:=tL (P:=P) (n:=n) hlt
  have Za:i∉TT:=fun hT=>Ki fun j hj hjT=>by
   obtain⟨o,ho,hg,_,vf⟩:=hF.tail i hT;rw[tL hlt]at ho;cases ho
   obtain⟨_,_,_,Ic,_⟩:=nP hg
   have Gm: ∀j∈(bD P n ops true ops[i]).pre,listed.getD j false=true:=fun j hj=>by
    rw[Ic]at hj;obtain⟨ed,TU,yD⟩:=List.mem_filterMap.1 hj;cases hbd:ki ed
    ·rw[hbd]at yD;cases yD
    ·rw[hbd]at yD
     simp only[cond_true,Option.some.injEq]at yD;rw[<- yD];exact hpre ed TU hbd
   rcases hF.all j (by rw[wJ];exact hj)with⟨b,hb,rfl⟩|h
   ·exact oE hF hd'.closed (i+1) i _ (Nat.lt_succ_self _) oY Gm _ (vf b hb)
   ·exact absurd h hjT
  obtain⟨b,AH,tM⟩:=(hF.all i (by rw[wJ];exact hlt)).resolve_right Za
  have Qz: ∀j∈TT,(listed.setIfInBounds i true).getD j false=false:=fun j hj=>by
   rw[lO listed i j (by rw[hd'.lsize];exact hlt),if_neg (show ¬j=i from fun he=>Za (by rw[<- he];exact hj))];exact MV j hj
  obtain⟨o,ho,hE⟩:=kz (hF.Pn b AH);rw[tM,oY]at ho;cases ho
  obtain⟨eA,hop,QA,Ic,_⟩:=nP hE.good
  have Gm: ∀j∈(bD P n ops true ops[i]).pre,listed.getD j false=true:=fun j hj=>by
   rw[Ic]at hj;obtain⟨ed,TU,yD⟩:=List.mem_filterMap.1 hj;cases hbd:ki ed
   ·rw[hbd]at yD;cases yD
   ·rw[hbd]at yD
    simp only[cond_true,Option.some.injEq]at yD;rw[<- yD];exact hpre ed TU hbd
  have vf: ∀q,Nat.testBit (ms.getD i 0) q=true->listed.getD q false=true:=oE hF hd'.closed (i+1) i _ (Nat.lt_succ_self _) oY Gm;have hil:i<listed.size:=by rw[hd'.lsize];exact hlt
  have rK:JC ops.size (listed.setIfInBounds i true)<=fuel:=by
   have:=Gl hlt hil hl;omega
  have hU:=fun j=>lO listed i j hil
  have hmono: ∀j,listed.getD j false=true->(listed.setIfInBounds i true).getD j false=true:=fun j hj=>by rw[hU];split<;>simp[hj]
  have hun: ∀j,(listed.setIfInBounds i true).getD j false=false->listed.getD j false=false/\j≠i:=fun j hj=>by
   rw[hU]at hj;by_cases h:j=i
   ·rw[if_pos h]at hj;cases hj
   ·rw[if_neg h]at hj;exact⟨hj,h⟩
  have hclosed: ∀j,(listed.setIfInBounds i true).getD j false=true-> ∀o,(LL P n ops)[j]? =some o-> ∀q∈o.pre,(listed.setIfInBounds i true).getD q false=true:=by
   intro j hj o ho q hq;rw[hU]at hj;by_cases h:j=i
   ·subst h;rw[oY]at ho;cases ho;exact hmono q (Gm q hq)
   ·rw[if_neg h]at hj;exact hmono q (hd'.closed j hj o ho q hq)
  have hls:(listed.setIfInBounds i true).size=ops.size:=by simp[hd'.lsize]
  have hput: ∀x t,(a.put ops[i].dst x).tmps.getD t undef=if ops[i].dst=some t then x else a.tmps.getD t undef:=by
   intro x t;cases mA:ops[i].dst with
   |none=>simp[Act.put]
   |some d=>
    simp only[Act.put,Array.getD_eq_getD_getElem?,Array.getElem?_setIfInBounds,Option.some.injEq];by_cases h:d=t
    ·subst h
     have hd1:d<a.tmps.size:=by rw[hd'.size];exact QA d mA
     simp[hd1]
    ·simp[h]
  have yF:=hF.pw;rw[hd'.split,List.pairwise_append]at yF
  have wK: ∀p,listed.getD p false=true->dO done' p-> ∀o,(LL P n ops)[p]? =some o-> ∃bp,bp∈rest'/\bp.1=p/\ ∀q,Nat.testBit (ms.getD p 0) q=true->listed.getD q false=true:=by
   intro p hp uM o ho
   have Av:p<(LL P n ops).length:=by
    rcases Nat.lt_or_ge p (LL P n ops).length with h|h
    ·exact h
    ·rw[List.getElem?_eq_none h]at ho;cases ho
   obtain⟨bp,JD,TV⟩:=(hF.all p Av).resolve_right (fun hT=>by rw[MV p hT]at hp;cases hp);rw[hd'.split]at JD;rcases List.mem_append.1 JD with h|h
   ·exact absurd TV (uM bp h)
   ·exact⟨bp,h,TV,wH hF hd'.closed hp ho⟩
  by_cases hin:b∈done'
  ·
   have hst:b.2.1=false:=by
    cases hs:b.2.1 with
    |false=>rfl
    |true=>
     have:=hd'.sd b hin hs;rw[tM,hl]at this;cases this
   obtain⟨v,hv1,XH⟩:=hd'.Pd b hin (by rw[tM];exact hl) _ (by rw[tM];exact oY)
   have hT: ∀t∈(bD P n ops true ops[i]).reads,VR c h w (Env.get e' t) (a.tmps.getD t undef):=by
    intro t ht
    refine hd'.T t (fun b' hb' hl' o' ho' mA=> ?_) fun p hp uM op CB mA=>by
     obtain⟨bp,JD,pW,hpa⟩:=wK p hp uM op CB;obtain⟨oa,ob,h1,h2,hr⟩:=eV (yF.2.2 b hin bp JD);rw[tM,oY]at h1;cases h1
     rw[pW,CB]at h2;cases h2
     have:=(hr.ba t mA ht).2;rw[pW,tM]at this;rw[hpa _ this]at hl;cases hl
    rcases pU yF.1 b' hb' b hin with rfl|hR|hR
    ·rw[tM,oY]at ho';cases ho'
     exact hE.self hst t mA ht
    ·obtain⟨oa,ob,h1,h2,hr⟩:=eV hR
     rw[ho']at h1;cases h1
     rw[tM,oY]at h2;cases h2
     have:=hr.ab t mA ht;rw[tM]at this;rw[vf _ this]at hl';cases hl'
    ·obtain⟨oa,ob,h1,h2,hr⟩:=eV hR
     rw[ho']at h2;cases h2
     rw[tM,oY]at h1;cases h1
     have:=(hr.ba t mA ht).1;rw[hd'.sd b' hb' this]at hl';cases hl'
   have TW: ∀p,listed.getD p false=true->dO done' p-> ∀o t,(LL P n ops)[p]? =some o->o.dst=some t\/t∈o.reads->ops[i].dst≠some t:=by
    intro p hp uM o t ho zi hit;obtain⟨bp,JD,pW,hpa⟩:=wK p hp uM o ho;obtain⟨oa,ob,h1,h2,hr⟩:=eV (yF.2.2 b hin bp JD);rw[tM,oY]at h1;cases h1
    rw[pW,ho]at h2;cases h2
    rcases zi with zi|zi
    ·exact hr.dst t (by rw[eA];exact hit) zi
    ·have:=hr.ab t (by rw[eA];exact hit) zi
     rw[pW,tM]at this;rw[hpa _ this]at hl;cases hl
   have hdc: ∀(x:Value) (c':Cx) (w':World),Ext c h w c' h w'-> ∀j,(listed.setIfInBounds i true).getD j false=true->(∃ b∈done',b.1=j)\/tK P n ops w0 pb c' h w' (a.put ops[i].dst x) j:=fun x c' w' hx' j hj=>by
    rw[hU]at hj;by_cases h:j=i
    ·exact .inl ⟨b,hin,by rw[tM,h]⟩
    ·rw[if_neg h]at hj
     by_cases hex: ∃b∈done',b.1=j
     ·exact .inl hex
     ·have huj:dO done' j:=fun b hb he=>hex ⟨b,hb,he⟩
      refine .inr (((hd'.dc j hj).resolve_left hex).mono hx' fun o t ho zi=> ?_);rw[hput,if_neg (TW j hj huj o t ho zi)]
   have Kj: ∀p q,(listed.setIfInBounds i true).getD p false=true->(listed.setIfInBounds i true).getD q false=true->dO done' p->dO done' q->pb p=pb q->p=q:=by
    intro p q hp hq uM Gn he;have hpi:p≠i:=fun h=>uM b hin (by rw[tM,h])
    have oF:q≠i:=fun h=>Gn b hin (by rw[tM,h])
    rw[hU,if_neg hpi]at hp;rw[hU,if_neg oF]at hq;exact hd'.Ib p q hp hq uM Gn he
   have fin: ∀(x:Value) (c':Cx) (w':World),bT c' h w'->Ext c h w c' h w'->(∀ t,ops[i].dst=some t->VR c' h w' (Env.get e' t) x)->wpAny P .any ops Q fuel (listed.setIfInBounds i true) (a.put ops[i].dst x) w':=by
    intro x c' w' hr' hx' hxv;refine ih done' rest' _ pb c' h w' e' _ Qz rK ⟨hd'.split,hr',hd'.ext.trans zh hx',by rw[kr];exact hd'.size,by rw[put_defers];exact hd'.defers,hls,hd'.cont,hdc x c' w' hx',Kj,fun b' hb' hs=>hmono _ (hd'.sd b' hb' hs),hclosed,fun t ht MU=> ?_,fun b' hb' hl' o' ho'=>hd'.Pd b' hb' (hun _ hl').1 o' ho'⟩;rw[hput];by_cases hdt:ops[i].dst=some t
    ·rw[if_pos hdt];exact hxv t hdt
    ·rw[if_neg hdt]
     refine(hd'.T t (fun b' hb' hl' o' ho'=> ?_) fun p hp uM=>MU p (hmono p hp) uM).mono hd'.rep hx';by_cases WS:b'.1=i
     ·rw[WS,oY]at ho';cases ho'
      rw[eA];exact hdt
     ·exact ht b' hb' (by rw[hU,if_neg WS];exact hl') o' ho'
   rcases XH with⟨hw,XH⟩|⟨hw,rfl⟩
   ·refine qq gd (b:=true) (Array.getElem?_eq_getElem hlt) hE.good hd'.rep hT hd'.size hw (k:=fun v' h'=>v'=v/\h'=h) (kp:=fun _ _=>False) (fun _=>XH _ _ ⟨rfl,rfl⟩) (fun _ v' x h' c' w' hk hr' hx' mQ=> ?_) (fun _ v' x h' c' w' hk=>hk.elim) (fun hf=>by cases hf)
    obtain⟨rfl,rfl⟩:=hk;exact fin x c' w' hr' hx' fun t ht=>(hv1 t (by rw[eA];exact ht)).vr mQ
   ·refine qq gd (b:=false) (Array.getElem?_eq_getElem hlt) hE.good hd'.rep hT hd'.size hw (k:=fun _ _=>False) (kp:=fun _ _=>False) (fun hf=>by cases hf) (fun hf=>by cases hf) (fun hf=>by cases hf) (fun _=> ?_)
    exact fin _ c w hd'.rep .refl fun t ht=>(hv1 t (by rw[eA];exact ht)).vr <| .pure (.bn _ _ rfl fun i v x hv=>by simp at hv)
  ·
   have yo:b∈rest':=by
    rw[hd'.split]at AH;rcases List.mem_append.1 AH with h|h
    ·exact absurd h hin
    ·exact h
   rcases jn with rfl|⟨j,ag,r,rfl,Zb⟩
   ·cases yo
   have pV:b=(j,true,ag)\/JB (bD P n ops true ops[i])=true\/(vu (bD P n ops true ops[i])=true/\i∈ag):=by
    rcases List.mem_cons.1 yo with h|h
    ·exact .inl h
    ·right
     obtain⟨oa,ob,h1,h2,hr⟩:=eV ((List.pairwise_cons.1 yF.2.1).1 b h);rw[tM,oY]at h2;cases h2
     rcases hr.st rfl with h3|h3
     ·rw[tM]at h3
      have h4:listed.getD j false=true:=vf _ h3;rw[h4]at Zb;cases Zb
     ·rw[tM]at h3;exact h3
   have WR:dO done' i:=fun b' hb' he=>by
    have:=mS hF hd'.split yo b' hb';rw[tM]at this;exact this he
   by_cases Zc:b=(j,true,ag)
   case neg=>
    have XI:=pV.resolve_left Zc
    have hgd:(bD P n ops true ops[i]).guard=none:=by
     rcases XI with h1|h1
     ·obtain⟨t,ty,sz,v,pre,JE,_⟩:=AF h1
      rw[JE]
     ·obtain⟨t,ty,sz,z,m,ps,pre,JE⟩:=vv h1.1
      rw[JE]
    have XJ:ops[i].guard=none:=by
     obtain⟨_,_,_,_,hg⟩:=nP hE.good;cases hgo:ops[i].guard with
     |none=>rfl
     |some gw=>
      obtain⟨q,want⟩:=gw;rw[hgo]at hg;obtain⟨t',_,_,hg⟩:=hg;rw[hgd]at hg;cases hg
    obtain⟨t,x,C,ty,mA,hrun,TX⟩: ∃t x C ty,ops[i].dst=some t/\(execOp a.eval ops[i]).run P w= .ok (.value x) (w.alloc (.cells C ty))/\Made (LL P n ops) (bD P n ops true ops[i]) t w.heap.size (w.alloc (.cells C ty)) (a.put ops[i].dst x):=by
     rcases XI with h1|⟨h1,h2⟩
     ·obtain⟨t,ty,sz,v,pre,JE,hvl,Xz⟩:=AF h1
      have QB:mb P ops[i].op= .box ty sz (.const v):=by rw[<- hop,JE]
      have mA:ops[i].dst=some t:=by rw[<- eA,JE]
      obtain⟨x,hrun,Pt⟩:=Kb (P:=P) (w:=w) (a:=a) (o:=ops[i]) QB;have hxs:x.cells.size=v.cells.length:=(pM (c:=c) (h:=h) (w:=w) (.pure (Pt _ _)) Xz).1;exact⟨t,_,_,_,mA,hrun,.inl ⟨h1,by rw[JE];rfl,ty,sz,v,x.cells,by rw[JE],hvl,Xz,by rw[hput,if_pos mA],dM _ _,by rw[hxs];exact hvl,fun j' u y hu hy Im w'=>(Pt Im w').cells hu hy⟩⟩
     ·obtain⟨t,ty,sz,z0,m,parts,pre,JE⟩:=vv h1
      have mA:ops[i].dst=some t:=by rw[<- eA,JE]
      have QB:mb P ops[i].op= .buildSlice ty sz z0 m parts:=by rw[<- hop,JE]
      obtain⟨tt,ps,ti,z,hoo,WT,hi1,Xj,wB,hs1,Ql,rfl,rfl,rfl⟩:=Nk QB;have EM:(j,true,ag)∈ord:=by rw[hd'.split];simp
      obtain⟨oj,hoj,hEj⟩:=kz (hF.Pn _ EM);have XK:=hEj.lk i h2 _ oY h1;have ep:=hd'.cont;rw[jq _ _ _ _ _ _ _ _ _ _ _ (hF.un _ EM)]at ep;have XL:(LL P n ops)[j]? =some oj:=hoj;rw[cM,XL]at ep;dsimp only at ep;have Gp:=(jw ep).2 i h2 _ oY h1;have QC:(bD P n ops true ops[i]).op= .buildSlice ty ti.size (bw 4 z) m (ps.toList.map fun(j,x)=>(j,aD x)):=by rw[JE]
      rw[QC]at Gp;simp only[bF,kn]at Gp
      have hsub: ∀t'∈(ps.toList.map fun(j,x)=>(j,aD x)).flatMap (fun p=>p.2.use),t'∈(bD P n ops true ops[i]).reads:=fun t' ht'=>by
       unfold aA.reads;rw[QC];exact List.mem_append_left _ ht'
      have Qv:ER c h w (Env.only (bD P n ops true ops[i]).reads e') a.tmps:=fun t'=>by
       rw[lK];split
       ·rename_i ht'
        refine hd'.T t' (fun b' hb' hl' o' ho' QD=> ?_) fun p hp uM op CB QD=> ?_
        ·obtain⟨oa,ob,q1,q2,hr⟩:=eV (yF.2.2 b' hb' b yo)
         rw[ho']at q1;cases q1
         rw[tM,oY]at q2;cases q2
         have:=hr.ab t' QD ht';rw[tM]at this;rw[vf _ this]at hl';cases hl'
        ·have q1:=XK p op t' CB QD ht'
         rcases hd'.dc p hp with⟨b',hb',he⟩|TO
         ·exact absurd he (uM b' hb')
         ·obtain⟨o3,t3,Pp,_,_,TR⟩:=TO.ex
          rw[CB]at Pp;cases Pp
          rcases TR.Qx with h|h
          ·rw[q1.1]at h;cases h
          ·rw[q1.2]at h;cases h
       ·exact .undef
      rw[mz (e':=Env.only (bD P n ops true ops[i]).reads e') (fun t' ht'=>by rw[lK,if_pos (hsub t' ht')])]at Gp;have hzl: ∀(c:Cx) (h:Heap) (w:World),LR c h w ti.size (List.replicate m (bw 4 z)) ((Array.range (m*ti.size)).map (z.cells[· %z.cells.size]!)):=fun c h w=>sj (.pure (ei 4 z)) Ql hs1 m
      obtain⟨cs',C',_,hf,_,_⟩:=j5 Qv ti.size ps.toList _ _ (hzl _ _ _) Gp
      have TY:t∉(bD P n ops true ops[i]).reads:=fun hr=>by
       have:=(XK i _ t oY (by rw[eA];exact mA) hr).2;rw[h1]at this;cases this
      refine⟨t,_,C',ty,mA,pN hoo WT hi1 Xj wB hf,.inr ⟨h1,XK,ty,ti.size,bw 4 z,m,ps.toList,_,C',QC,hzl,?_,by rw[hput,if_pos mA],dM _ _⟩⟩
      have iL:(ps.toList.map fun(j,x)=>(j,(a.put ops[i].dst (.slice (some ⟨w.heap.size,0,none⟩) m m)).eval x))=ps.toList.map fun(j,x)=>(j,a.eval x):=by
       refine List.map_congr_left fun p hp=> ?_
       obtain⟨j',x⟩:=p;dsimp only;rw[uL (a:=a) x fun t' ht'=> ?_];rw[hput,if_neg];rw[mA];intro he;refine TY ?_;rw[Option.some.inj he];exact hsub t' (List.mem_flatMap.2 ⟨(j',aD x),List.mem_map.2 ⟨(j',x),hp,rfl⟩,ht'⟩)
      rw[iL];exact hf
    unfold wpOp;rw[Array.getElem?_eq_getElem hlt];dsimp only;rw[if_pos (by simp[Region.wanted,XJ])];refine .inl ?_;unfold Oper.wp;rw[hrun,Oper.upon_value];have hx':Ext c h w c h (w.alloc (.cells C ty)):=Ia _
    have hnm: ∀q,listed.getD q false=true->dO done' q->pb q<w.heap.size:=fun q hq Gn=>by
     rcases hd'.dc q hq with⟨b',hb',he⟩|hp
     ·exact absurd he (Gn b' hb')
     ·exact hp.lt
    refine ih done' _ _ (fun q=>if q=i then w.heap.size else pb q) c h _ e' _ Qz rK ⟨hd'.split,Ka hd'.rep hx' (fun q o ho=>ic w _ _ (hd'.rep.obj q o ho).lt),hd'.ext.trans zh hx',by rw[kr];exact hd'.size,by rw[put_defers];exact hd'.defers,hls,hd'.cont,fun q hq=> ?_,fun p q hp hq uM Gn he=> ?_,
     fun b' hb' hs=>hmono _ (hd'.sd b' hb' hs),hclosed,fun t' ht MU=> ?_,fun b' hb' hl' o' ho'=>hd'.Pd b' hb' (hun _ hl').1 o' ho'⟩
    ·rw[hU]at hq
     by_cases oF:q=i
     ·subst oF
      refine .inr ⟨⟨_,t,oY,by rw[eA];exact mA,hgd,by rw[if_pos rfl];exact TX⟩,?_,?_,fun q' o' ho'=> ?_,fun hb=> ?_⟩
      ·rw[if_pos rfl];exact hd'.ext.size
      ·rw[if_pos rfl,lz];exact Nat.lt_succ_self _
      ·rw[if_pos rfl]
       have:=(hd'.rep.obj q' o' ho').lt;omega
      ·rw[if_pos rfl]at hb
       have:=hd'.rep.im _ hb;omega
     ·rw[if_neg oF]at hq
      by_cases hex: ∃b∈done',b.1=q
      ·exact .inl hex
      ·have Gn:dO done' q:=fun b hb he=>hex ⟨b,hb,he⟩
       have hp:=(((hd'.dc q hq).resolve_left hex).mono (a':=a.put ops[i].dst x) hx' fun o t' ho zi=>by
        rw[hput,if_neg];intro he;rcases zi with zi|zi
        rotate_left
        ·obtain⟨o3,t3,Pp,_,_,TR⟩:=((hd'.dc q hq).resolve_left hex).ex
         rw[ho]at Pp;cases Pp
         have q1:=TR.nr oY (by rw[eA];exact he) zi;rcases XI with h|h
         ·rw[q1.1]at h;cases h
         ·rw[q1.2]at h;cases h.1
        obtain⟨bp,JD,pW,_⟩:=wK q hq Gn o ho;have hne:bp≠b:=fun h=>oF (by rw[<- pW,h,tM])
        rcases pU yF.2.1 bp JD b yo with h|h|h
        ·exact hne h
        ·obtain⟨oa,ob,h1,h2,hr⟩:=eV h
         rw[pW,ho]at h1;cases h1
         rw[tM,oY]at h2;cases h2
         exact hr.dst t' zi (by rw[eA];exact he)
        ·obtain⟨oa,ob,h1,h2,hr⟩:=eV h
         rw[tM,oY]at h1;cases h1
         rw[pW,ho]at h2;cases h2
         exact hr.dst t' (by rw[eA];exact he) zi)
       refine .inr ⟨?_,?_,?_,?_,?_⟩
       ·have:=hp.ex
        simpa only[if_neg oF]using this
       ·simpa only[if_neg oF]using hp.ge
       ·simpa only[if_neg oF]using hp.lt
       ·simpa only[if_neg oF]using hp.Kc
       ·simpa only[if_neg oF]using hp.TQ
    ·rw[hU]at hp hq
     by_cases hpi:p=i<;>by_cases oF:q=i
     ·rw[hpi,oF]
     ·rw[if_pos hpi,if_neg oF]at he
      rw[if_neg oF]at hq;have:=hnm q hq Gn;omega
     ·rw[if_neg hpi,if_pos oF]at he
      rw[if_neg hpi]at hp;have:=hnm p hp uM;omega
     ·rw[if_neg hpi,if_neg oF]at he
      rw[if_neg hpi]at hp;rw[if_neg oF]at hq;exact hd'.Ib p q hp hq uM Gn he
    ·have hne:t≠t':=fun h=>MU i (by rw[hU,if_pos rfl]) WR _ oY (by rw[eA,mA,h])
     rw[hput,if_neg (by rw[mA];exact fun h=>hne (Option.some.inj h))];refine(hd'.T t' (fun b' hb' hl' o' ho'=>ht b' hb' ?_ o' ho') fun p hp uM=>MU p (hmono p hp) uM).mono hd'.rep hx';rw[hU,if_neg (fun h=>WR b' hb' h)];exact hl'
   subst Zc;have hji:j=i:=tM;subst hji
   have hR: ∀b'∈done',∃ob,(LL P n ops)[b'.1]? =some ob/\WK (LL P n ops) ms b' (j,true,ag) ob (bD P n ops true ops[j]):=fun b' hb'=>by
    obtain⟨oa,ob,h1,h2,h3⟩:=eV (yF.2.2 b' hb' (j,true,ag) (by simp));have pn:(LL P n ops)[j]? =some ob:=h2;rw[oY]at pn;cases pn
    exact⟨oa,h1,h3⟩
   have hT: ∀t∈(bD P n ops true ops[j]).reads,VR c h w (Env.get e' t) (a.tmps.getD t undef):=by
    intro t ht
    refine hd'.T t (fun b' hb' hl' o' ho' mA=> ?_) fun p hp uM op CB mA=>by
     obtain⟨bp,JD,pW,hpa⟩:=wK p hp uM op CB;rcases List.mem_cons.1 JD with h|h
     ·rw[<- pW,h]at hp
      have hp':listed.getD j false=true:=hp;rw[hp']at hl;cases hl
     ·obtain⟨oa,ob,h1,h2,hr⟩:=eV ((List.pairwise_cons.1 yF.2.1).1 bp h)
      have QE:(LL P n ops)[j]? =some oa:=h1;rw[oY]at QE;cases QE
      rw[pW,CB]at h2;cases h2
      have:=(hr.ba t mA ht).2;rw[pW]at this;have h4:listed.getD j false=true:=hpa _ this;rw[h4]at hl;cases hl
    obtain⟨ob,bZ,hr⟩:=hR b' hb';rw[ho']at bZ;cases bZ
    rw[vf _ (hr.ab t mA ht)]at hl';cases hl'
   have ep:=hd'.cont;rw[jq _ _ _ _ _ _ _ _ _ _ _ (hF.un (j,true,ag) (by rw[hd'.split];simp))]at ep;rw[cM,oY]at ep;dsimp only at ep
   replace ep:=(jw ep).1
   have hdc: ∀(x:Value) (c':Cx) (h':Heap) (w':World),Ext c h w c' h' w'-> ∀q,(listed.setIfInBounds j true).getD q false=true->(∃ b∈done'++[(j,true,ag)],b.1=q)\/tK P n ops w0 pb c' h' w' (a.put ops[j].dst x) q:=fun x c' h' w' hx' q hq=>by
    rw[hU]at hq;by_cases h:q=j
    ·exact .inl ⟨(j,true,ag),by simp,h.symm⟩
    ·rw[if_neg h]at hq
     by_cases hex: ∃b∈done',b.1=q
     ·obtain⟨b',hb',he⟩:=hex
      exact .inl ⟨b',by simp[hb'],he⟩
     ·have Gn:dO done' q:=fun b hb he=>hex ⟨b,hb,he⟩
      refine .inr (((hd'.dc q hq).resolve_left hex).mono hx' fun o t ho zi=> ?_);rw[hput,if_neg];intro he;obtain⟨bp,JD,pW,hpa⟩:=wK q hq Gn o ho;rcases List.mem_cons.1 JD with h1|h1
      ·exact h (by rw[<- pW,h1])
      ·obtain⟨oa,ob,h2,h3,hr⟩:=eV ((List.pairwise_cons.1 yF.2.1).1 bp h1)
       have pn:(LL P n ops)[j]? =some oa:=h2;rw[oY]at pn;cases pn
       rw[pW,ho]at h3;cases h3
       rcases zi with zi|zi
       ·exact hr.dst t (by rw[eA];exact he) zi
       ·have:=hr.ab t (by rw[eA];exact he) zi
        rw[pW]at this;have h4:listed.getD j false=true:=hpa _ this;rw[h4]at hl;cases hl
   have Kj: ∀p q,(listed.setIfInBounds j true).getD p false=true->(listed.setIfInBounds j true).getD q false=true->dO (done'++[(j,true,ag)]) p->dO (done'++[(j,true,ag)]) q->pb p=pb q->p=q:=by
    intro p q hp hq uM Gn he;have hpi:p≠j:=fun h=>uM (j,true,ag) (by simp) h.symm
    have oF:q≠j:=fun h=>Gn (j,true,ag) (by simp) h.symm
    rw[hU,if_neg hpi]at hp;rw[hU,if_neg oF]at hq;exact hd'.Ib p q hp hq (fun b hb=>uM b (by simp[hb])) (fun b hb=>Gn b (by simp[hb])) he
   have fin: ∀(v:SV) (x:Value) (e1:Env) (c':Cx) (h':Heap) (w':World),Pj e' e1->bT c' h' w'->Ext c h w c' h' w'->VR c' h' w' v x->lF P Γ (LL P n ops) r (pJ e1 (bD P n ops true ops[j]).dst v) h' k kp->
     (∀ b'∈done',(listed.setIfInBounds j true).getD b'.1 false=false-> ∀o',(LL P n ops)[b'.1]? =some o'->lN P Γ o' (pJ e1 (bD P n ops true ops[j]).dst v) h->lN P Γ o' (pJ e1 (bD P n ops true ops[j]).dst v) h')->
     wpAny P .any ops Q fuel (listed.setIfInBounds j true) (a.put ops[j].dst x) w':=by
    intro v x e1 c' h' w' wI hr' hx' mQ hc hpd;have Kk: ∀t,(bD P n ops true ops[j]).dst≠some t->Env.get (pJ e1 (bD P n ops true ops[j]).dst v) t=Env.get e' t:=fun t ht=>by rw[(nQ e1 _ v t).2 ht,<-wI]
    refine ih (done'++[(j,true,ag)]) r _ pb c' h' w' _ _ Qz rK ⟨by rw[hd'.split];simp,hr',hd'.ext.trans zh hx',by rw[kr];exact hd'.size,by rw[put_defers];exact hd'.defers,hls,hc,hdc x c' h' w' hx',Kj,fun b' hb' hs=> ?_,hclosed,fun t ht MU=> ?_,fun b' hb' hl' o' ho'=> ?_⟩
    ·rcases List.mem_append.1 hb' with h|h
     ·exact hmono _ (hd'.sd b' h hs)
     ·simp only[List.mem_singleton]at h;subst h
      rw[hU,if_pos rfl]
    ·rw[hput]
     by_cases hdt:ops[j].dst=some t
     ·rw[if_pos hdt,(nQ e1 _ v t).1 (by rw[eA];exact hdt)];exact mQ
     ·rw[if_neg hdt,Kk t (by rw[eA];exact hdt)]
      refine(hd'.T t (fun b' hb' hl' o' ho'=>ht b' (by simp[hb']) ?_ o' ho') fun p hp uM=>MU p (hmono p hp) fun b' hb'=> ?_).mono hd'.rep hx'
      rotate_left
      ·rcases List.mem_append.1 hb' with h|h
       ·exact uM b' h
       ·simp only[List.mem_singleton]at h;subst h
        intro he;have he':j=p:=he;rw[<- he',hl]at hp;cases hp
      rw[hU,if_neg (fun e=> ?_)]
      ·exact hl'
      ·obtain⟨ob,_,hr⟩:=hR b' hb'
       exact hr.ne e
    ·rcases List.mem_append.1 hb' with h|h
     ·obtain⟨u7,hne⟩:=hun _ hl'
      obtain⟨ob,bZ,hr⟩:=hR b' h;rw[ho']at bZ;cases bZ
      refine hpd b' h hl' o' ho' ((hd'.Pd b' h u7 o' ho').congr (fun t ht=>(Kk t fun mA=> ?_).symm) fun t ht=>(Kk t fun mA=>hr.dst t ht mA).symm);have:=(hr.ba t mA ht).2;rw[vf _ this]at u7;cases u7
     ·simp only[List.mem_singleton]at h;subst h
      rw[hU,if_pos rfl]at hl';cases hl'
   have hkeep: ∀ {e1:Env} {c':Cx} {h':Heap} {w':World},Pj e' e1->Ext c h w c' h' w'->ER c' h' w' (Env.keep (BG (LL P n ops)) e1) a.tmps:=fun{e1 c' h' w'} wI hx' t=>by
    rw[BM];by_cases ht:BG (LL P n ops) t=true
    ·rw[if_pos ht];exact .undef
    ·rw[if_neg ht,<-wI]
     exact(hd'.T t (fun b _ _ o ho=>F4 ht ho) fun p _ _ o ho=>F4 ht ho).mono hd'.rep hx'
   rcases lJ ep with⟨hw,e1,wI,hp⟩|⟨hw,e1,wI,hp⟩
   ·rw[jx (fun t _=>(wI t).symm)]at hp
    refine qq gd (b:=true) (Array.getElem?_eq_getElem hlt) hE.good hd'.rep hT hd'.size hw (fun _=>hp) (fun _ v x h' c' w' hk hr' hx' mQ=> ?_) (fun _ v x h' c' w' hk hr' hx' mQ=>XG v x _ h' c' a w' hk hr' (hd'.ext.trans zh hx') (hkeep wI hx') hd'.size hd'.defers mQ) (fun hf=>by cases hf);rw[gZ]at hk;obtain⟨hc,hag⟩:=jy gd (fun q hq oi Qw=>hE.ag q hq oi Qw) hk;refine fin v x e1 c' h' w' wI hr' hx' mQ hc fun b' hb' hl' o' ho' hold=> ?_
    obtain⟨u7,hne⟩:=hun _ hl';obtain⟨ob,bZ,hr⟩:=hR b' hb';rw[ho']at bZ;cases bZ
    have hns:b'.2.1=false:=by
     cases hs:b'.2.1 with
     |false=>rfl
     |true=>rw[hd'.sd b' hb' hs]at u7;cases u7
    rcases hr.rd hns rfl with h1|h1|h1
    ·rw[vf _ h1]at u7;cases u7
    ·exact hold.heap h1
    ·obtain⟨v',q1,q2⟩:=hold
     rcases q2 with⟨q2,_⟩|q2
     ·obtain⟨ob2,Kh,XE⟩:=kz (hF.Pn b' (by rw[hd'.split];simp[hb']))
      rw[ho']at Kh;cases Kh
      exact hag _ h1 o' ho' (XE.cls hns) q2
     ·exact⟨v',q1,.inr q2⟩
   ·rw[gZ]at hp
    refine qq gd (b:=false) (Array.getElem?_eq_getElem hlt) hE.good hd'.rep hT hd'.size hw (k:=fun _ _=>False) (kp:=fun _ _=>False) (fun hf=>by cases hf) (fun hf=>by cases hf) (fun hf=>by cases hf) (fun _=> ?_);exact fin (.bn []) undef e1 c h w wI hd'.rep .refl (.pure (.bn _ _ rfl fun i v x hv=>by simp at hv)) hp fun _ _ _ _ _ hold=>hold
theorem EN{m:Nat}{h:Heap}{p v:SV}{K:Heap->Prop}(hp:rF m h p v K): ∃h',K h':=by
 unfold rF at hp;obtain⟨hu,hp⟩:=dx.1 hp
 replace hp:=ah.1 hp
 obtain⟨_,hp⟩:=hp;obtain⟨nx,l⟩:=h;split at hp
 ·simp only[bg]at hp
  split at hp
  ·split at hp
   ·replace hp:=ah.1 hp
    obtain⟨_,hp⟩:=hp;rw[cM]at hp;split at hp
    ·obtain⟨w1,hp,_,_⟩:=wu hp hu
     obtain⟨_,hp⟩:=fy.1 hp;rw[cL]at hp;exact⟨_,hp⟩
    ·exact hp.elim
   ·exact hp.elim
  ·exact hp.elim
 ·exact hp.elim
theorem Nn{o:qj}(hc:o.cls<=1\/o.oD=true){e:Env}{h:Heap}{K kp:SV->Heap->Prop}(hp:bF P Γ o e h K kp): ∃v h',K v h':=by
 rcases hc with hc|hc
 ·obtain⟨v,hv,_⟩:=wG hc hp
  exact⟨v,h,hv⟩
 ·cases o with
  |store m x v=>
   simp only[bF,aE]at hp;obtain⟨h',hk⟩:=EN hp;exact⟨_,h',hk⟩
  |_=>cases hc
theorem tN{o:aA}(hc:o.op.cls<=1\/o.op.oD=true){e:Env}{h:Heap}{K:Env->Heap->Prop}(hp:ec P Γ o e h K): ∃e' h',K e' h':=by
 unfold ec at hp;rcases lJ hp with⟨_,e1,_,hp⟩|⟨_,e1,_,hp⟩
 ·obtain⟨v,h',hk⟩:=Nn hc hp
  rw[gZ]at hk;exact⟨_,_,hk⟩
 ·rw[gZ]at hp
  exact⟨_,_,hp⟩
theorem zj{L:List aA}: ∀ {T:List Nat},(∀ i∈T,∀o,L[i]? =some o->o.op.cls<=1\/o.op.oD=true)-> ∀ {e:Env} {h:Heap} {K:Env->Heap->Prop},HF P Γ L T e h K-> ∃e' h',K e' h'
 | [],_,e,h,K,hp=>⟨e,h,hp⟩
 |i::r,hT,e,h,K,hp=>by
  unfold HF at hp;rw[cM]at hp;split at hp
  ·exact hp.elim
  ·rename_i o ho
   obtain⟨e',h',hp⟩:=tN (hT i (by simp) o ho) hp;exact zj (fun j hj=>hT j (by simp[hj])) hp
theorem wL{f:Nat->Prop->Prop}{p:Prop}: ∀ {l:List Nat},(∀ i∈l,∀q,f i q->q)->uB l f p->p
 | [],_,h=>h
 |i::r,hf,h=>wL (fun j hj=>hf j (by simp[hj])) (hf i (by simp) _ h)
theorem zk{f:Nat->Prop->Prop}{p:Prop}: ∀ {l:List Nat},(∀ i∈l,∀q,f i q->q)->uB l f p-> ∀i∈l,∃q,f i q
 |i::r,hf,h,j,hj=>by
  rcases List.mem_cons.1 hj with rfl|hj
  ·exact⟨_,h⟩
  ·exact zk (fun j hj=>hf j (by simp[hj])) (hf i (by simp) _ h) j hj
theorem nR{i:Nat}: ∀ {l:List Nat} {j:Nat},j∈oX l i<->j∈l/\j≠i
 | [],j=>by simp[oX]
 |x::r,j=>by
  unfold oX;rcases bO x i with⟨h,h'⟩|⟨h,h'⟩<;>rw[h]
  ·subst h'
   simp only[cond_true,nR,List.mem_cons];constructor
   ·rintro⟨a,b⟩;exact⟨.inr a,b⟩
   ·rintro⟨a|a,b⟩
    ·exact absurd a b
    ·exact⟨a,b⟩
  ·simp only[cond_false,List.mem_cons,nR]
   constructor
   ·rintro(rfl|⟨a,b⟩)
    ·exact⟨.inl rfl,h'⟩
    ·exact⟨.inr a,b⟩
   ·rintro⟨rfl|a,b⟩
    ·exact .inl rfl
    ·exact .inr ⟨a,b⟩
theorem CC: ∀ {l:List Nat} {i:Nat},mO l i=true->i∈l
 | [],i,h=>by cases h
 |x::r,i,h=>by
  unfold mO at h;rcases bO x i with⟨hb,h'⟩|⟨hb,h'⟩<;>rw[hb]at h
  ·simp[h']
  ·exact List.mem_cons_of_mem _ (CC h)
theorem zl{rem:List Nat}: ∀ {pre:List Nat},(∀ k∈pre,k∉rem)->bU pre rem=true
 | [],_=>rfl
 |k::r,h=>by
  unfold bU
  have hk:mO rem k=false:=by
   cases hb:mO rem k with
   |false=>rfl
   |true=>exact absurd (CC hb) (h k (by simp))
  rw[hk,zl fun j hj=>h j (by simp[hj])];rfl
theorem CD{e':Env}: ∀ {e:Env},vY e' e-> ∀t,Env.get e t= .undef\/Env.get e t=Env.get e' t
 | [],_,t=> .inl rfl
 |(s,v)::r,h,t=>by
  have e:Env.get ((s,v)::r) t=bif Nat.beq s t then v else Env.get r t:=rfl;rw[e];cases hb:Nat.beq s t with
  |true=>
   have:=Nat.eq_of_beq_eq_true hb;subst this;exact .inr h.1.symm
  |false=>exact CD h.2 t
theorem tO{L:List aA}{l9:Env->Heap->Prop->Prop}(AI: ∀e h p,l9 e h p->p): ∀(m:Nat) {rem:List Nat},(∀ i∈rem,∀o,L[i]? =some o->o.op.cls<=1\/o.op.oD=true)-> ∀ {e:Env} {h:Heap} {p:Prop},iy P Γ L l9 m rem e h p->p
 |0,[],_,e,h,p,hp=>AI e h p (show l9 e h p from hp)
 |0,x::r,_,e,h,p,hp=>(show False from hp).elim
 |m+1,[],_,e,h,p,hp=>AI e h p (show l9 e h p from hp)
 |m+1,x::r,hT,e,h,p,hp=>by
  rw[gY]at hp;refine wL (fun i hi q hq=> ?_) hp;rw[cM]at hq;split at hq
  ·exact hq.elim
  ·rename_i o ho
   rcases Bw hq with⟨_,hq⟩|⟨_,hq⟩
   ·obtain⟨e',h',hq⟩:=tN (hT i hi o ho) hq
    exact tO AI m (fun j hj=>hT j (nR.1 hj).1) hq
   ·exact hq
theorem No(gd:Γ.Ok P)(hF:ve (LL P n ops) ms ord TT)(zh:bT c0 h0 w0){l9:Env->Heap->Prop->Prop}{C:Env->Heap->Prop}{p:Prop}(AI: ∀e h p,l9 e h p->C e h/\p)
  (hK: ∀e h c a w,C e h->bT c h w->Ext c0 h0 w0 c h w->ER c h w e a.tmps->a.tmps.size=n->a.defers=ds->Q .normal a w):
  ∀(fuel m:Nat) (rem:List Nat) (p:Prop) (listed:Array Bool) (e:Env) (h:Heap) (c:Cx) (a:Act) (w:World),JC ops.size listed<=fuel->listed.size=ops.size->(∀ i∈rem,i∈TT)->(∀ i,i<ops.size->(listed.getD i false=false<->i∈rem))->
   iy P Γ (LL P n ops) l9 m rem e h p->bT c h w->Ext c0 h0 w0 c h w->ER c h w e a.tmps->a.tmps.size=n->a.defers=ds->wpAny P .any ops Q fuel listed a w:=by
 have eD: ∀rem:List Nat,(∀ i∈rem,i∈TT)-> ∀i∈rem,∀o,(LL P n ops)[i]? =some o->o.op.cls<=1\/o.op.oD=true:=fun rem yG i hi o ho=>by
  obtain⟨o',ho',_,hc,_⟩:=hF.tail i (yG i hi);rw[ho]at ho';cases ho';exact hc
 have T0: ∀i∈TT,i<ops.size:=fun i hi=>by
  obtain⟨o',ho',_⟩:=hF.tail i hi;rcases Nat.lt_or_ge i (LL P n ops).length with h|h
  ·rw[wJ]at h;exact h
  ·rw[List.getElem?_eq_none h]at ho';cases ho'
 have yx: ∀(m:Nat) (rem:List Nat) (p:Prop) (listed:Array Bool) (e:Env) (h:Heap) (c:Cx) (a:Act) (w:World),(∀ i,i<ops.size->listed.getD i false=true)->(∀ i∈rem,i∈TT)->(∀ i,i<ops.size->(listed.getD i false=false<->i∈rem))->
   iy P Γ (LL P n ops) l9 m rem e h p->bT c h w->Ext c0 h0 w0 c h w->ER c h w e a.tmps->a.tmps.size=n->a.defers=ds->Q .normal a w:=by
  intro m rem p listed e h c a w hall MW yG hp hr hx he hn hds
  have Ni:rem=[]:=by
   cases rem with
   |nil=>rfl
   |cons x r=>
    have h1:=T0 x (MW x (by simp));have h2:=(yG x h1).2 (by simp);rw[hall x h1]at h2;cases h2
  subst Ni;have hp:l9 e h p:=by cases m<;>exact hp
  exact hK e h c a w (AI e h p hp).1 hr hx he hn hds
 intro fuel
 induction fuel with
 |zero=>
  intro m rem p listed e h c a w hu hls MW yG hp hr hx he hn hds;have hall:=Cy (Nat.le_zero.1 hu);refine⟨List.eq_nil_iff_forall_not_mem.2 fun i hi=> ?_,yx m rem p listed e h c a w hall MW yG hp hr hx he hn hds⟩;obtain⟨hlt,hl,_⟩:=lP hls hi;rw[hall i hlt]at hl;cases hl
 |succ fuel ih=>
  intro m rem p listed e h c a w hu hls MW yG hp hr hx he hn hds;refine⟨fun XM=>yx m rem p listed e h c a w (fun i hi=>rL hF hls XM (i+1) i (Nat.lt_succ_self _) hi) MW yG hp hr hx he hn hds,fun i hi=> ?_⟩;obtain⟨hlt,hl,hpre⟩:=lP hls hi;have XN:i∈rem:=(yG i hlt).1 hl;have oY:=tL (P:=P) (n:=n) hlt;obtain⟨o,ho,hg,_,_⟩:=hF.tail i (MW i XN);rw[oY]at ho;cases ho
  obtain⟨eA,hop,QA,Ic,_⟩:=nP hg
  have hfree:bU (bD P n ops true ops[i]).pre rem=true:=zl fun k hk hkr=>by
   rw[Ic]at hk;obtain⟨ed,TU,yD⟩:=List.mem_filterMap.1 hk;cases hbd:ki ed
   ·rw[hbd]at yD;cases yD
   ·rw[hbd]at yD
    simp only[cond_true,Option.some.injEq]at yD;have h1:=hpre ed TU hbd;rw[yD]at h1;have h2:=(yG k (T0 k (MW k hkr))).2 hkr;rw[h1]at h2;cases h2
  cases rem with
  |nil=>cases XN
  |cons x0 r0=>
  cases m with
  |zero=>exact(show False from hp).elim
  |succ m=>
   rw[gY]at hp
   obtain⟨q,hq⟩:=zk (fun j hj q hq=>by
    rw[cM]at hq;split at hq
    ·exact hq.elim
    ·rename_i o ho
     rcases Bw hq with⟨_,hq⟩|⟨_,hq⟩
     ·obtain⟨e',h',hq⟩:=tN (eD _ MW j hj o ho) hq
      exact tO (fun e h p hh=>(AI e h p hh).2) m (fun j' hj'=>eD _ MW j' (nR.1 hj').1) hq
     ·exact hq) hp i XN
   rw[cM,oY]at hq;dsimp only at hq;rw[hfree]at hq
   replace hq:ec P Γ (bD P n ops true ops[i]) e h fun e' h'=>iy P Γ (LL P n ops) l9 m (oX (x0::r0) i) e' h' q:=hq
   have hil:i<listed.size:=by rw[hls];exact hlt
   have rK:JC ops.size (listed.setIfInBounds i true)<=fuel:=by
    have:=Gl hlt hil hl;omega
   have T1: ∀j,j<ops.size->((listed.setIfInBounds i true).getD j false=false<->j∈oX (x0::r0) i):=fun j hj=>by
    rw[lO listed i j hil,nR];by_cases e:j=i
    ·rw[if_pos e];simp[e]
    ·rw[if_neg e,yG j hj];simp[e]
   have XO: ∀j∈oX (x0::r0) i,j∈TT:=fun j hj=>MW j (nR.1 hj).1
   have fin: ∀(v:SV) (x:Value) (e1:Env) (c':Cx) (h':Heap) (w':World),Pj e e1->bT c' h' w'->Ext c h w c' h' w'->VR c' h' w' v x->iy P Γ (LL P n ops) l9 m (oX (x0::r0) i) (pJ e1 (bD P n ops true ops[i]).dst v) h' q->
     wpAny P .any ops Q fuel (listed.setIfInBounds i true) (a.put ops[i].dst x) w':=by
    intro v x e1 c' h' w' wI hr' hx' mQ hc;have EG:ER c' h' w' e1 a.tmps:=fun t=>by rw[<- wI];exact(he t).mono hr hx'
    refine ih m _ q _ _ h' c' _ w' rK (by simp[hls]) XO T1 hc hr' (hx.trans zh hx') ?_ (by rw[kr];exact hn) (by rw[put_defers];exact hds);rw[eA];exact EG.put (fun t ht=>by rw[hn];exact QA t ht) mQ
   unfold ec at hq;rcases lJ hq with⟨hw,e1,wI,hq⟩|⟨hw,e1,wI,hq⟩
   ·rw[jx (fun t _=>(wI t).symm)]at hq
    refine qq gd (b:=true) (Array.getElem?_eq_getElem hlt) hg hr (fun t _=>he t) hn hw (fun _=>hq) (fun _ v x h' c' w' hk hr' hx' mQ=> ?_) (fun _ v x h' c' w' hk=>hk.elim) (fun hf=>by cases hf);rw[gZ]at hk;exact fin v x e1 c' h' w' wI hr' hx' mQ hk
   ·rw[gZ]at hq
    refine qq gd (b:=false) (Array.getElem?_eq_getElem hlt) hg hr (fun t _=>he t) hn hw (k:=fun _ _=>False) (kp:=fun _ _=>False) (fun hf=>by cases hf) (fun hf=>by cases hf) (fun hf=>by cases hf) (fun _=> ?_);exact fin (.bn []) undef e1 c h w wI hr .refl (.pure (.bn _ _ rfl fun i v x hv=>by simp at hv)) hq
theorem sy{L:List aA}{t:List qK}{k:Env->Heap->Prop}{kp:SV->Env->Heap->Prop}: ∀(p:List qK),(∀ b∈p,mO b.2.2 b.1=false)-> ∀(e:Env) (h:Heap),lF P Γ L (p++t) e h k kp=lF P Γ L p e h (fun e h=>lF P Γ L t e h k kp) kp
 | [],_,e,h=>rfl
 |(i,b,ag)::r,hp,e,h=>by
  have ih:=sy (L:=L) (t:=t) (k:=k) (kp:=kp) r (fun b hb=>hp b (by simp[hb]));have hu:=hp (i,b,ag) (by simp);rw[List.cons_append,jq _ _ _ _ _ _ _ _ _ _ _ hu,jq _ _ _ _ _ _ _ _ _ _ _ hu];simp only[ih]
theorem wM(gd:Γ.Ok P){id:Nat}(hm:P.follows .mixedOrders=true)(hok:Gj (LL P n ops) ord=true){c:Cx}{h:Heap}{w:World}{e:Env}{a:Act}(hp:lF P Γ (LL P n ops) ord e h k kp)(hr:bT c h w)(he:ER c h w e a.tmps)(hn:a.tmps.size=n)
  (hK: ∀e' h' c' a' w',k e' h'->bT c' h' w'->Ext c h w c' h' w'->ER c' h' w' e' a'.tmps->a'.tmps.size=n->a'.defers=a.defers->Q .normal a' w')
  (XG: ∀v x e' h' c' a' w',kp v e' h'->bT c' h' w'->Ext c h w c' h' w'->ER c' h' w' e' a'.tmps->a'.tmps.size=n->a'.defers=a.defers->VR c' h' w' v x->Q (.panic [{v:=x,recovered:=false}]) a' w'):
  (Code.region id ops true).wp P Q a w:=by
 refine wp_region_any hm ?_;have hx:Ext c h w c h {w with drawn:=w.drawn+1}:=⟨rfl,rfl,rfl,Nat.le_refl _,fun _ _ _=>rfl,fun _ _=>rfl,fun _ h=>h,fun _ h=> .inl h,Nat.le_refl _,fun _ o' _ h=>⟨o',h,Nat.le_refl _,rfl,fun _=>rfl⟩,fun _ o' h=> .inr ⟨o',h,rfl⟩⟩;have hr':bT c h {w with drawn:=w.drawn+1}:=⟨hr.lt,fun i o ho=>(hr.obj i o ho).mono hr hx rfl,hr.inj,hr.apart,hr.im,hr.nj hx⟩
 have hfalse: ∀i,(Array.replicate ops.size false).getD i false=false:=fun i=>by
  rw[Array.getD_eq_getD_getElem?,Array.getElem?_replicate];split<;>rfl
 have hF:=EK hok;obtain⟨XP,hun,Aw⟩:=tJ ord;rw[XP,sy _ hun]at hp;refine TS gd (c0:=c) (h0:=h) (w0:=w) (ds:=a.defers) hF (fun fuel listed e' h' c' a' w' hu hls hall MV hk hr' hx he' hn' hd'=> ?_) XG hr ops.size [] (fM ord).1 _ (fun _=>0) c h _ e a (fun i _=>hfalse i) ?_ ⟨rfl,hr',hx,hn,rfl,by simp,hp,fun i hi=> ?_,fun i j hi=> ?_,fun b hb=>(by cases hb),fun i hi=> ?_,fun t _ _=>(he t).mono hr hx,fun b hb=>(by cases hb)⟩
 ·rcases Aw with Aw|⟨b,r,Aw,hmk⟩
  ·rw[Aw]at hk
   have Pv: ∀i,i<ops.size->listed.getD i false=true:=fun i hi=>hall i hi (by rw[Aw];simp)
   have hq:Q .normal a' w':=hK e' h' c' a' w' hk hr' hx he' hn' hd';cases fuel with
   |zero=>
    refine⟨List.eq_nil_iff_forall_not_mem.2 fun i hi=> ?_,hq⟩;obtain⟨hlt,hl,_⟩:=lP hls hi;rw[Pv i hlt]at hl;cases hl
   |succ fuel=>
    refine⟨fun _=>hq,fun i hi=> ?_⟩;obtain⟨hlt,hl,_⟩:=lP hls hi;rw[Pv i hlt]at hl;cases hl
  ·obtain⟨j,bb,ag⟩:=b
   rw[Aw,Eg _ _ _ _ _ _ _ _ _ _ _ hmk]at hk;unfold vZ at hk;have hTT:(fM ord).2.map (fun y=>y.1)=j::r.map fun y=>y.1:=by rw[Aw];rfl
   rw[<- hTT]at hk
   obtain⟨e1,h1,hk⟩:=zj (fun i hi o ho=>by
    obtain⟨o',ho',_,hc,_⟩:=hF.tail i hi;rw[ho]at ho';cases ho';exact hc) hk
   have AI: ∀(e':Env) (h':Heap) (p:Prop),Γ.fin (O9 e1 h1 e' h') (vY e' e1/\h1=h') p->(O9 e1 h1 e' h'=true\/vY e' e1/\h1=h')/\p:=fun e' h' p hh=>gd.fin _ _ _ hh
   have hkk:k e1 h1:=tO (fun e h p hh=>(AI e h p hh).2) _ (fun i hi o ho=>by
    obtain⟨o',ho',_,hc,_⟩:=hF.tail i hi;rw[ho]at ho';cases ho';exact hc) hk
   refine No gd hF hr (ds:=a.defers) (p:=k e1 h1) AI (fun e2 h2 c2 a2 w2 hst gV hx2 iL hn2 iR=> ?_) fuel _ _ _ listed e' h' c' a' w' hu hls (fun _ h=>h) (fun i hi=>⟨fun hl=> ?_,fun hT=>MV i hT⟩) hk hr' hx he' hn' hd'
   ·rcases hst with hst|⟨hep,rfl⟩
    rotate_left
    ·refine hK e1 h1 c2 a2 w2 hkk gV hx2 (fun t=> ?_) hn2 iR
     rcases CD hep t with hg|hg
     ·rw[hg];exact .undef
     ·rw[hg];exact iL t
    unfold O9 at hst;simp only[Bool.and_eq_true]at hst;obtain⟨h3,h4,h5⟩:=hst;have hs:TN h1 h2:=⟨(Nat.eq_of_beq_eq_true h4).symm,fun i o ho=>J9 h5 i o ho⟩;refine hK e1 h1 c2 a2 w2 hkk (gV.hle hs) (hx2.trans hr (Ext.hle hs)) (fun t=> ?_) hn2 iR;rcases Cw h3 t with hg|hg
    ·rw[hg];exact .undef
    ·exact(hg.vr (iL t)).hle hs
   ·by_cases hT:i∈(fM ord).2.map fun y=>y.1
    ·exact hT
    ·rw[hall i hi hT]at hl;cases hl
 ·unfold JC
  exact Nat.le_trans (List.length_filter_le _ _) (by simp)
 ·rw[hfalse]at hi;cases hi
 ·rw[hfalse]at hi;cases hi
 ·rw[hfalse]at hi;cases hi
end
end
end Ab
