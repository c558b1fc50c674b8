/- Parts of the proof of PParserBlanks, one behind the other, with short names. -/
import Derived.Test.YtbjifmbemdhndaaGreatDoorZ14
set_option linter.unusedVariables false
set_option linter.unusedSimpArgs false
namespace Ab
open Go
section
def lK(P:Program)(Γ:bZ)(o:aJ)(e:Env)(h:Heap):Prop:= ∃v,(∀ t,o.dst=some t->Lk (Env.get e t) v)/\
 ((kB e o.guard=some true/\ ∀K' fG:SV->Heap->Prop,K' v h->bR P Γ o.op e h K' fG)\/(kB e o.guard=some false/\v= .bn []))
theorem pn{e e':Env}{o:aJ}(hE: ∀t∈o.reads,Env.get e t=Env.get e' t):kB e o.guard=kB e' o.guard:=by
 unfold kB;cases hg:o.guard with
 |none=>rfl
 |some gw=>
  obtain⟨t,want⟩:=gw;dsimp only;rw[hE t (by simp[aJ.reads,hg])]
theorem jl{P:Program}{Γ:bZ}{e e':Env}{h:Heap}{o:aJ}{K kp:SV->Heap->Prop}(hE: ∀t∈o.reads,Env.get e t=Env.get e' t):bR P Γ o.op e h K kp=bR P Γ o.op e' h K kp:=
 yb fun t ht=>hE t (by simp[aJ.reads,ht])
theorem lK.congr{P:Program}{Γ:bZ}{e e':Env}{h:Heap}{o:aJ}(hE: ∀t∈o.reads,Env.get e t=Env.get e' t)(hd: ∀t,o.dst=some t->Env.get e t=Env.get e' t)(hp:lK P Γ o e h):lK P Γ o e' h:=by
 obtain⟨v,h1,h2⟩:=hp;refine⟨v,fun t ht=>by rw[<- hd t ht];exact h1 t ht,?_⟩;rw[<- pn hE];rcases h2 with⟨h2,h3⟩|h2
 ·exact .inl ⟨h2,fun K' fG hk=>by rw[<- jl hE];exact h3 K' fG hk⟩
 ·exact .inr h2
theorem lK.heap{P:Program}{Γ:bZ}{e:Env}{h h':Heap}{o:aJ}(hc:o.op.cls=0)(hp:lK P Γ o e h):lK P Γ o e h':=by
 obtain⟨v,h1,h2⟩:=hp;refine⟨v,h1,?_⟩;rcases h2 with⟨h2,h3⟩|h2
 ·refine .inl ⟨h2,fun K' fG hk=> ?_⟩
  obtain⟨v',qC,hd⟩:=Be (k:=fun u _=>u=v) hc (h3 (fun u _=>u=v) (fun _ _=>False) rfl);subst qC;exact hd h' K' fG hk
 ·exact .inr h2
theorem nA(e:Env)(d:Option Nat)(v:SV)(t:Nat):(d=some t->Env.get (oV e d v) t=v)/\(d≠some t->Env.get (oV e d v) t=Env.get e t):=by
 cases d with
 |none=>exact⟨(fun h=>by cases h),fun _=>rfl⟩
 |some u=>
  simp only[oV,p6];refine⟨fun h=> ?_,fun h=> ?_⟩
  ·cases h;rw[if_pos rfl]
  ·rw[if_neg (fun e=>h (by rw[e]))]
theorem jm{P:Program}{Γ:bZ}(gp:Γ.Ok P){L:List aJ}{p:Prop}: ∀ {ag:List Nat} {e:Env} {h:Heap},(∀ i∈ag,∀o,L[i]? =some o->o.op.cls<=1\/u0 o=true)->nR P Γ L ag e h p->
  p/\ ∀i∈ag,∀o,L[i]? =some o->o.op.cls<=1->kB e o.guard=some true->lK P Γ o e h
 | [],e,h,_,hp=>⟨hp,fun i hi=>by cases hi⟩
 |j::r,e,h,hc,hp=>by
  rw[Ax]at hp;rw[ey]at hp;split at hp
  ·exact hp.elim
  ·rename_i o ho
   have um: ∀i∈r,∀o,L[i]? =some o->o.op.cls<=1\/u0 o=true:=fun i hi=>hc i (by simp[hi])
   cases hB:u0 o with
   |true=>
    rw[hB]at hp;obtain⟨h1,h2⟩:=jm gp (ag:=r) um hp;refine⟨h1,fun i hi o' ho' fC hw=> ?_⟩;rcases List.mem_cons.1 hi with rfl|hi
    ·rw[ho]at ho';cases ho'
     rw[zv hB]at fC;omega
    ·exact h2 i hi o' ho' fC hw
   |false=>
   rw[hB]at hp;have x8:o.op.cls<=1:=(hc j (by simp) o ho).resolve_right (by rw[hB];decide)
   have fin: ∀ {e1:Env},Nl e e1->(kB e o.guard=some true->lK P Γ o e h)->(p/\ ∀i∈r,∀o,L[i]? =some o->o.op.cls<=1->kB e1 o.guard=some true->lK P Γ o e1 h)->
     p/\ ∀i∈j::r,∀o,L[i]? =some o->o.op.cls<=1->kB e o.guard=some true->lK P Γ o e h:=by
    intro e1 hE WQ ⟨QT,hr⟩;refine⟨QT,fun i hi o' ho' fC hw=> ?_⟩;rcases List.mem_cons.1 hi with rfl|hi
    ·rw[ho]at ho';cases ho';exact WQ hw
    ·exact(hr i hi o' ho' fC (by rw[<- pn (fun t _=>hE t)];exact hw)).congr (fun t _=>(hE t).symm) (fun t _=>(hE t).symm)
   rcases lH hp with⟨hw,e1,hE,hp⟩|⟨hw,e1,hE,hp⟩
   ·obtain⟨v,hv,hd⟩:=vW x8 hp
    have LD:(∀ t,o.dst=some t->Lk (Env.get e t) v)->lK P Γ o e h:=fun eN=>⟨v,eN,.inl ⟨hw,fun K' fG hk=>by rw[jl (fun t _=>hE t)];exact hd K' fG hk⟩⟩
    split at hv
    ·rename_i t eN
     rw[iK]at hv;obtain⟨WR,hv⟩:=gp.same _ _ _ hv;exact fin hE (fun _=>LD fun t' ht'=>by rw[eN]at ht';cases ht';rw[hE];exact WR) (jm gp um hv)
    ·rename_i eN
     exact fin hE (fun _=>LD fun t' ht'=>by rw[eN]at ht';cases ht') (jm gp um hv)
   ·exact fin hE (fun hw'=>by rw[hw]at hw';cases hw') (jm gp um hp)
theorem pq{α:Type}{R:α->α->Prop}: ∀ {l:List α},l.Pairwise R-> ∀a∈l,∀b∈l,a=b\/R a b\/R b a
 | [],_,a,ha,_,_=>by cases ha
 |x::r,.cons hx hr,a,ha,b,hb=>by
  rcases List.mem_cons.1 ha with rfl|VG<;>rcases List.mem_cons.1 hb with rfl|hb'
  ·exact .inl rfl
  ·exact .inr (.inl (hx b hb'))
  ·exact .inr (.inr (hx a VG))
  ·exact pq hr a VG b hb'
structure uP(L:List aJ)(ms:List Nat)(ord:List qs)(T:List Nat):Prop where
 mask: ∀(j:Nat) (o:aJ),L[j]? =some o->ms.getD j 0=zo ms o.pre/\ ∀k∈o.pre,k<j
 pw:ord.Pairwise fun a b=>S4 L ms a b=true
 LF: ∀b∈ord,S5 L b=true
 all: ∀i,i<L.length->(∃ b∈ord,b.1=i)\/i∈T
 un: ∀b∈ord,mM b.2.2 b.1=false
 tail: ∀i∈T,∃o,L[i]? =some o/\o.op.qB=false/\(o.op.cls<=1\/o.op.nZ=true)/\ ∀b∈ord,Nat.testBit (ms.getD i 0) b.1=true
theorem th: ∀(ord:List qs),ord=(fW ord).1++(fW ord).2/\(∀ b∈(fW ord).1,mM b.2.2 b.1=false)/\((fW ord).2=[]\/ ∃a r,(fW ord).2=a::r/\mM a.2.2 a.1=true)
 | []=>⟨rfl,(fun b hb=>by cases hb),.inl rfl⟩
 |a::r=>by
  unfold fW;cases hm:mM a.2.2 a.1 with
  |true=>exact⟨rfl,(fun b hb=>by cases hb),.inr ⟨a,r,rfl,hm⟩⟩
  |false=>
   obtain⟨h1,h2,h3⟩:=th r;refine⟨congrArg (a:: ·) h1,fun b hb=> ?_,h3⟩;rcases List.mem_cons.1 hb with rfl|hb
   ·exact hm
   ·exact h2 b hb
theorem Dg{L:List aJ}{ord:List qs}(h:Fb L ord=true):uP L (rT L []) (fW ord).1 ((fW ord).2.map fun y=>y.1):=by
 simp only[Fb,Bool.and_eq_true]at h;obtain⟨⟨⟨⟨h1,h2⟩,h3⟩,h4⟩,h5⟩:=h;refine⟨fun j o hj=> ?_,pg h2,fun b hb=>List.all_eq_true.1 h3 b hb,fun i hi=> ?_,(th ord).2.1,fun i hi=> ?_⟩
 ·have hlt:j<L.length:=by
   rcases Nat.lt_or_ge j L.length with h|h
   ·exact h
   ·rw[List.getElem?_eq_none h]at hj;cases hj
  have:=List.all_eq_true.1 h1 j (List.mem_range.2 hlt);rw[hj]at this;simp only[Bool.and_eq_true]at this;refine⟨Nat.eq_of_beq_eq_true this.1,fun k hk=> ?_⟩;have:=List.all_eq_true.1 this.2 k hk;exact Nat.lt_of_succ_le (by simpa[Nat.blt]using this)
 ·have:=List.all_eq_true.1 h4 i (List.mem_range.2 hi)
  rw[Bool.or_eq_true]at this;rcases this with this|this
  ·obtain⟨b,hb,he⟩:=List.any_eq_true.1 this
   exact .inl ⟨b,hb,Nat.eq_of_beq_eq_true he⟩
  ·obtain⟨b,hb,he⟩:=List.any_eq_true.1 this
   exact .inr (List.mem_map.2 ⟨b,hb,Nat.eq_of_beq_eq_true he⟩)
 ·obtain⟨a,ha,rfl⟩:=List.mem_map.1 hi
  have:=List.all_eq_true.1 h5 a ha;unfold VF at this;split at this
  ·rename_i o ho
   simp only[Bool.and_eq_true,Bool.or_eq_true,Bool.not_eq_true']at this;exact⟨o,ho,this.1,this.2.1.imp Nat.le_of_ble_eq_true id,fun b hb=>List.all_eq_true.1 this.2.2 b hb⟩
  ·cases this
structure S6(L:List aJ)(ms:List Nat)(a b:qs)(oa ob:aJ):Prop where
 ne:a.1≠b.1
 dst: ∀t,oa.dst=some t->ob.dst≠some t
 ab: ∀t,oa.dst=some t->t∈ob.reads->Nat.testBit (ms.getD b.1 0) a.1=true
 ba: ∀t,ob.dst=some t->t∈oa.reads->b.2.1=true/\Nat.testBit (ms.getD b.1 0) a.1=true
 st:a.2.1=true->Nat.testBit (ms.getD b.1 0) a.1=true\/Hf ob=true\/(u0 ob=true/\b.1∈a.2.2)
 rd:a.2.1=false->b.2.1=true->Nat.testBit (ms.getD b.1 0) a.1=true\/oa.op.cls=0\/a.1∈b.2.2
theorem fm{L:List aJ}{ms:List Nat}{a b:qs}(h:S4 L ms a b=true): ∃oa ob,L[a.1]? =some oa/\L[b.1]? =some ob/\S6 L ms a b oa ob:=by
 unfold S4 at h;split at h
 ·rename_i oa ob ha hb
  refine⟨oa,ob,ha,hb,?_⟩;simp only[Bool.and_eq_true]at h;obtain⟨⟨⟨⟨h1,h2⟩,h3⟩,h4⟩,h5⟩:=h;refine⟨fun e=>by rw[e]at h1;simp at h1,fun t ht=> ?_,fun t ht hr=> ?_,fun t ht hr=> ?_,fun hs=> ?_,fun hs hb=> ?_⟩
  ·rw[ht]at h2
   simp only[Bool.and_eq_true]at h2;intro e;rw[e]at h2;simp at h2
  ·rw[ht]at h2
   simp only[Bool.and_eq_true,Bool.or_eq_true,Bool.not_eq_true']at h2;rcases h2.2 with h2|h2
   ·rw[nv.2 hr]at h2;cases h2
   ·exact h2
  ·rw[ht]at h3
   simp only[Bool.and_eq_true,Bool.or_eq_true,Bool.not_eq_true']at h3;rcases h3 with h3|h3
   ·rw[nv.2 hr]at h3;cases h3
   ·exact h3
  ·rw[hs]at h4
   simp only[Bool.not_true,Bool.false_or,Bool.or_eq_true,Bool.and_eq_true]at h4;rcases h4 with h4|h4|h4
   ·exact .inl h4
   ·exact .inr (.inl h4)
   ·exact .inr (.inr ⟨h4.1,nv.1 h4.2⟩)
  ·rw[hs,hb]at h5
   simp only[Bool.not_true,Bool.false_or,Bool.or_eq_true]at h5;rcases h5 with h5|h5|h5
   ·exact .inl h5
   ·exact .inr (.inl (Nat.eq_of_beq_eq_true h5))
   ·exact .inr (.inr (nv.1 h5))
 ·cases h
structure WS(L:List aJ)(a:qs)(o:aJ):Prop where
 good:o.op.qB=false
 cls:a.2.1=false->o.op.cls<=1
 again:a.2.1=false->a.2.2=[]
 self:a.2.1=false-> ∀t,o.dst=some t->t∉o.reads
 ag: ∀i∈a.2.2,∀oi,L[i]? =some oi->oi.op.cls<=1\/u0 oi=true
 lk: ∀i∈a.2.2,∀oi,L[i]? =some oi->u0 oi=true-> ∀(q:Nat) (oq:aJ) (t:Nat),L[q]? =some oq->oq.dst=some t->t∈oi.reads->Hf oq=false/\u0 oq=false
theorem kC{L:List aJ}{a:qs}(h:S5 L a=true): ∃o,L[a.1]? =some o/\WS L a o:=by
 unfold S5 at h;split at h
 ·rename_i o ho
  refine⟨o,ho,?_⟩;simp only[Bool.and_eq_true,Bool.or_eq_true,Bool.not_eq_true']at h;obtain⟨⟨⟨h1,h2⟩,h3⟩,h4⟩:=h;refine⟨h1,fun hs=> ?_,fun hs=> ?_,fun hs t ht hr=> ?_,fun i hi oi No=> ?_,fun i hi oi No hB q oq t hq S7 WT=> ?_⟩
  ·rcases h2 with h2|h2
   ·exact Nat.le_of_ble_eq_true h2
   ·rw[hs]at h2;cases h2
  ·rcases h3 with h3|h3
   ·rw[hs]at h3;cases h3
   ·exact List.isEmpty_iff.1 h3.1
  ·rcases h3 with h3|h3
   ·rw[hs]at h3;cases h3
   ·have:=h3.2
    rw[ht]at this;simp only[Bool.not_eq_true']at this;rw[nv.2 hr]at this;cases this
  ·have:=List.all_eq_true.1 h4 i hi
   rw[No]at this;simp only[Bool.or_eq_true,Bool.and_eq_true]at this;rcases this with h|h
   ·exact .inl (Nat.le_of_ble_eq_true h)
   ·exact .inr h.1
  ·have:=List.all_eq_true.1 h4 i hi
   rw[No]at this;simp only[Bool.or_eq_true,Bool.and_eq_true]at this;rcases this with h|h
   ·have:=Nat.le_of_ble_eq_true h
    rw[zv hB]at this;omega
   ·have:=List.all_eq_true.1 h.2 oq (List.mem_of_getElem? hq)
    rw[S7]at this;simp only[Bool.or_eq_true,Bool.not_eq_true',Bool.or_eq_false_iff]at this;rcases this with h|h
    ·rw[nv.2 WT]at h;cases h
    ·exact h
 ·cases h
section
variable {P:Program} {Γ:bZ} {n:Nat} {ops:Array Oper} {ord:List qs} {TT:List Nat} {ms:List Nat} {k:Env->Heap->Prop} {kp:SV->Env->Heap->Prop} {Q:Exit->Act->World->Prop} {c0:Cx} {h0:Heap} {w0:World} {ds:List Deferred}
abbrev LL(P:Program)(n:Nat)(ops:Array Oper):List aJ:=ops.toList.map (bP P n ops true)
def Made(L:List aJ)(o:aJ)(t B:Nat)(w:World)(a:Act):Prop:=
 (Hf o=true/\o.reads=[]/\ ∃ty sz v C,o.op= .box ty sz (.const v)/\v.cells.length=sz/\v≠ .undef/\a.tmps.getD t undef= .pointer (some ⟨B,0,none⟩)/\
  w.heap[B]? =some (.cells C ty (0,0))/\C.size=sz/\ ∀(j:Nat) (u:SV) (x:Value),v.cells[j]? =some u->C[j]? =some x-> ∀Im w',VP Im w' u x)\/
 (u0 o=true/\(∀ (q:Nat) (oq:aJ) (t':Nat),L[q]? =some oq->oq.dst=some t'->t'∈o.reads->Hf oq=false/\u0 oq=false)/\
  ∃(ty:TypeId) (sz:Nat) (zero:SV) (n:Nat) (ps:List (Nat×Operand)) (C0 C:Array Value),o.op= .buildSlice ty sz zero n (ps.map fun(j,x)=>(j,aK x))/\(∀ (c:Cx) (h:Heap) (w:World),LR c h w sz (List.replicate n zero) C0)/\
   Instr.fill (fun j=>some (j*sz,sz)) C0 (ps.map fun(j,x)=>(j,a.eval x))=some C/\a.tmps.getD t undef= .slice (some ⟨B,0,none⟩) n n/\w.heap[B]? =some (.cells C ty (0,0)))
theorem Made.Np{L:List aJ}{o:aJ}{t B:Nat}{w:World}{a:Act}(h:Made L o t B w a):Hf o=true\/u0 o=true:=by
 rcases h with h|h
 ·exact .inl h.1
 ·exact .inr h.1
theorem Made.nr{L:List aJ}{o:aJ}{t B:Nat}{w:World}{a:Act}(h:Made L o t B w a){q:Nat}{oq:aJ}{t':Nat}(hq:L[q]? =some oq)(ht:oq.dst=some t')(hr:t'∈o.reads):Hf oq=false/\u0 oq=false:=by
 rcases h with h|h
 ·rw[h.2.1]at hr;cases hr
 ·exact h.2.1 q oq t' hq ht hr
theorem Made.mono{L:List aJ}{o:aJ}{t B:Nat}{w w':World}{a a':Act}(h:Made L o t B w a)(hw:w'.heap[B]? =w.heap[B]?)(ht: ∀t',t'=t\/t'∈o.reads->a'.tmps.getD t' undef=a.tmps.getD t' undef):Made L o t B w' a':=by
 rcases h with⟨h1,h2,ty,sz,v,C,h3,h4,h5,h6,h7,h8⟩|⟨h1,h2,ty,sz,zero,n,ps,C0,C,h3,h4,h5,h6,h7⟩
 ·exact .inl ⟨h1,h2,ty,sz,v,C,h3,h4,h5,by rw[ht t (.inl rfl)];exact h6,by rw[hw];exact h7,h8⟩
 ·refine .inr ⟨h1,h2,ty,sz,zero,n,ps,C0,C,h3,h4,?_,by rw[ht t (.inl rfl)];exact h6,by rw[hw];exact h7⟩
  have he:(ps.map fun(j,x)=>(j,a'.eval x))=ps.map fun(j,x)=>(j,a.eval x):=by
   refine List.map_congr_left fun p hp=> ?_
   obtain⟨j,x⟩:=p;dsimp only;rw[uv (a:=a) (a':=a') x fun t' ht'=>ht t' (.inr ?_)];unfold aJ.reads;rw[h3];refine List.mem_append_left _ (List.mem_flatMap.2 ⟨(j,aK x),List.mem_map.2 ⟨(j,x),hp,rfl⟩,ht'⟩)
  rw[he];exact h5
theorem Made.TI{P:Program}{Γ:bZ}{L:List aJ}{o:aJ}{t B nn:Nat}{l:List (Nat×aG)}{c:Cx}{w:World}{e:Env}{a:Act}{k kp:SV->Heap->Prop}(hm:Made L o t B w a)
  (hT: ∀t'∈o.reads,VR c ⟨nn,l⟩ w (Env.get e t') (a.tmps.getD t' undef))(hp:bR P Γ o.op e ⟨nn,l⟩ k kp):
  ∃(sz:Nat) (elems:List SV) (ty:TypeId) (C:Array Value) (V:SV),w.heap[B]? =some (.cells C ty (0,0))/\LR c ⟨nn,l⟩ w sz elems C/\k V ⟨nn+1,(nn,.vec 0 sz elems ⟨false,some ty⟩)::l⟩/\
   VR (c.push nn B) ⟨nn+1,(nn,.vec 0 sz elems ⟨false,some ty⟩)::l⟩ w V (a.tmps.getD t undef):=by
 rcases hm with⟨_,_,ty,sz,v,C,hop,hvl,TJ,Nq,hw,VB,hcell⟩|⟨_,_,ty,sz,zero,n,ps,C0,C,hop,WU,hf,Nq,hw⟩
 ·rw[hop]at hp
  dsimp only[bR,bw.fu]at hp;obtain⟨_,hp⟩:=dI.1 hp
  replace hp:=av.1 hp
  obtain⟨_,hp⟩:=hp;refine⟨sz,[v],ty,C,.ref nn 0 0 0,hw,⟨by simpa using VB,fun v' qC=>by simp only[List.mem_singleton]at qC;subst qC;exact hvl,fun i j e u x he hu hx=> ?_⟩,hp,by rw[Nq];exact zj⟩;cases i with
  |zero=>simp at he;subst he;exact .pure (hcell j u x hu (by simpa using hx) _ _)
  |succ i=>simp at he
 ·rw[hop]at hp
  simp only[bR,kq]at hp
  have hsub: ∀t'∈(ps.map fun(j,x)=>(j,aK x)).flatMap (fun p=>p.2.use),t'∈o.reads:=fun t' ht'=>by
   unfold aJ.reads;rw[hop];exact List.mem_append_left _ ht'
  have Nn:ER c ⟨nn,l⟩ w (Env.only o.reads e) a.tmps:=fun t'=>by
   rw[lI];split
   ·exact hT t' ‹_›
   ·exact .undef
  rw[mB (e':=Env.only o.reads e) (fun t' ht'=>by rw[lI,if_pos (hsub t' ht')])]at hp;obtain⟨cs',C',hk',hf',hlr,hlen⟩:=ju Nn sz ps _ C0 (WU _ _ _) hp;rw[hf]at hf';cases hf'
  exact⟨sz,cs',ty,C,.sl nn 0 sz 0 n (some n),hw,hlr,hk',by rw[Nq];exact HE hw (Nat.le_refl _) (by rw[hlr.1,hlen];simp)⟩
structure tj(P:Program)(n:Nat)(ops:Array Oper)(w0:World)(pb:Nat->Nat)(c:Cx)(h:Heap)(w:World)(a:Act)(i:Nat):Prop where
 ex: ∃o t,(LL P n ops)[i]? =some o/\o.dst=some t/\o.guard=none/\Made (LL P n ops) o t (pb i) w a
 ge:w0.heap.size<=pb i
 lt:pb i<w.heap.size
 HV: ∀j o,h.obj j=some o->c.β j≠pb i
 QU: ¬c.Im (pb i)
abbrev ep(done:List qs)(i:Nat):Prop:= ∀b∈done,b.1≠i
structure xw(P:Program)(Γ:bZ)(n:Nat)(ops:Array Oper)(ord:List qs)(k:Env->Heap->Prop)(kp:SV->Env->Heap->Prop)(c0:Cx)(h0:Heap)(w0:World)(ds:List Deferred)
  (done rest:List qs)(listed:Array Bool)(pb:Nat->Nat)(c:Cx)(h:Heap)(w:World)(e:Env)(a:Act):Prop where
 split:ord=done++rest
 rep:cF c h w
 ext:Ext c0 h0 w0 c h w
 size:a.tmps.size=n
 defers:a.defers=ds
 lsize:listed.size=ops.size
 cont:lD P Γ (LL P n ops) rest e h k kp
 dc: ∀i,listed.getD i false=true->(∃ b∈done,b.1=i)\/tj P n ops w0 pb c h w a i
 Gj: ∀i j,listed.getD i false=true->listed.getD j false=true->ep done i->ep done j->pb i=pb j->i=j
 sd: ∀b∈done,b.2.1=true->listed.getD b.1 false=true
 closed: ∀i,listed.getD i false=true-> ∀o,(LL P n ops)[i]? =some o-> ∀j∈o.pre,listed.getD j false=true
 T: ∀t,(∀ b∈done,listed.getD b.1 false=false-> ∀o,(LL P n ops)[b.1]? =some o->o.dst≠some t)->(∀ i,listed.getD i false=true->ep done i-> ∀o,(LL P n ops)[i]? =some o->o.dst≠some t)->VR c h w (Env.get e t) (a.tmps.getD t undef)
 Pd: ∀b∈done,listed.getD b.1 false=false-> ∀o,(LL P n ops)[b.1]? =some o->lK P Γ o e h
theorem Fc(hF:uP (LL P n ops) ms ord TT): ∀(m j:Nat) {o:aJ},j<m->(LL P n ops)[j]? =some o-> ∀i,Nat.testBit (ms.getD j 0) i=true->i<j
 |0,j,o,hj,_,_,_=>by omega
 |m+1,j,o,hj,ho,i,hb=>by
  obtain⟨h1,h2⟩:=hF.mask j o ho;rw[h1]at hb;rcases o6 ms i o.pre 0 hb with hb|⟨q,hq,hb⟩
  ·simp at hb
  ·have VH:=h2 q hq
   rcases hb with rfl|hb
   ·exact VH
   ·have hjl:j<(LL P n ops).length:=by
     rcases Nat.lt_or_ge j (LL P n ops).length with h|h
     ·exact h
     ·rw[List.getElem?_eq_none h]at ho;cases ho
    have S8:(LL P n ops)[q]? =some (LL P n ops)[q]:=List.getElem?_eq_getElem (by omega);have:=Fc hF m q (by omega) S8 i hb;omega
theorem n5(hF:uP (LL P n ops) ms ord TT){listed:Array Bool}(fC: ∀i,listed.getD i false=true-> ∀o,(LL P n ops)[i]? =some o-> ∀j∈o.pre,listed.getD j false=true):
  ∀(m j:Nat) (o:aJ),j<m->(LL P n ops)[j]? =some o->(∀ i∈o.pre,listed.getD i false=true)-> ∀i,Nat.testBit (ms.getD j 0) i=true->listed.getD i false=true
 |0,j,o,hj,_,_,_,_=>by omega
 |m+1,j,o,hj,ho,hpre,i,hb=>by
  obtain⟨h1,h2⟩:=hF.mask j o ho;rw[h1]at hb;rcases o6 ms i o.pre 0 hb with hb|⟨q,hq,hb⟩
  ·simp at hb
  ·rcases hb with rfl|hb
   ·exact hpre _ hq
   ·have VH:=h2 q hq
    have hjl:j<(LL P n ops).length:=by
     rcases Nat.lt_or_ge j (LL P n ops).length with h|h
     ·exact h
     ·rw[List.getElem?_eq_none h]at ho;cases ho
    have S8:(LL P n ops)[q]? =some (LL P n ops)[q]:=List.getElem?_eq_getElem (by omega);exact n5 hF fC m q _ (by omega) S8 (fC q (hpre q hq) _ S8) i hb
theorem Kb{o:aJ}(h:Hf o=true):o.op.cls=2:=by
 obtain⟨t,ty,sz,v,pre,rfl,_⟩:=zu h;rfl
theorem mP(hF:uP (LL P n ops) ms ord TT){done rest:List qs}(hs:ord=done++rest){b:qs}(hb:b∈rest):ep done b.1:=by
 intro b' hb' he;have LG:=hF.pw;rw[hs,List.pairwise_append]at LG;obtain⟨oa,ob,_,_,hr⟩:=fm (LG.2.2 b' hb' b hb);exact hr.ne he
theorem HW(hF:uP (LL P n ops) ms ord TT){done rest:List qs}{listed:Array Bool}{pb:Nat->Nat}{c:Cx}{h:Heap}{w:World}{e:Env}{a:Act}(hd:xw P Γ n ops ord k kp c0 h0 w0 ds done rest listed pb c h w e a){b:qs}(hb:b∈rest)
  {o:aJ}(ho:(LL P n ops)[b.1]? =some o)(hc:o.op.cls<=1):listed.getD b.1 false=false:=by
 cases hl:listed.getD b.1 false with
 |false=>rfl
 |true=>
  rcases hd.dc b.1 hl with⟨b',hb',he⟩|hp
  ·exact absurd he (mP hF hd.split hb b' hb')
  ·obtain⟨o',t,oH,_,_,hm⟩:=hp.ex
   rw[ho]at oH;cases oH
   rcases hm.Np with h|h
   ·rw[Kb h]at hc;omega
   ·rw[zv h]at hc;omega
theorem vX(hF:uP (LL P n ops) ms ord TT){listed:Array Bool}(fC: ∀i,listed.getD i false=true-> ∀o,(LL P n ops)[i]? =some o-> ∀j∈o.pre,listed.getD j false=true){p:Nat}(hp:listed.getD p false=true){o:aJ}(ho:(LL P n ops)[p]? =some o):
  ∀q,Nat.testBit (ms.getD p 0) q=true->listed.getD q false=true:=
 n5 hF fC (p+1) p o (Nat.lt_succ_self _) ho (fC p hp o ho)
theorem tj.mono{pb:Nat->Nat}{c c':Cx}{h h':Heap}{w w':World}{a a':Act}{i:Nat}(hp:tj P n ops w0 pb c h w a i)(hx:Ext c h w c' h' w')
  (hs: ∀o t,(LL P n ops)[i]? =some o->o.dst=some t\/t∈o.reads->a'.tmps.getD t undef=a.tmps.getD t undef):tj P n ops w0 pb c' h' w' a' i:=by
 obtain⟨⟨o,t,oH,eN,hg,hm⟩,hge,hlt,hnn,hni⟩:=hp;refine⟨⟨o,t,oH,eN,hg,hm.mono (hx.frame _ hlt hnn) fun t' ht'=>hs o t' oH (ht'.imp (fun h=>by rw[h];exact eN) fun h=>h)⟩,hge,Nat.lt_of_lt_of_le hlt hx.size,fun j o' ho' he=> ?_,fun hb=> ?_⟩
 ·rcases hx.new j o' ho' with h1|⟨o,ho,h1⟩
  ·omega
  ·exact hnn j o ho (h1▸he)
 ·rcases hx.im' _ hb with h1|h1|⟨j,o,ho,h1⟩
  ·exact hni h1
  ·omega
  ·exact hnn j o ho h1
theorem VR.name{c:Cx}{nn:Nat}{l:List (Nat×aG)}{w:World}(ob:aG)(B:Nat){v:SV}{x:Value}(h:VR c ⟨nn,l⟩ w v x):VR (c.push nn B) ⟨nn+1,(nn,ob)::l⟩ w v x:=by
 induction h with
 |pure h=>exact .pure h
 |ref i g idx sub x hx hi hg h=>
  have hi':i<nn:=hi;refine .ref _ _ _ _ _ hx (Nat.lt_succ_of_lt hi') (fun o ho=> ?_) fun o ho hgo=> ?_
  ·rw[cY,if_neg (by omega)]at ho;exact hg o ho
  ·rw[cY,if_neg (by omega)]at ho
   rw[h o ho hgo];simp[Cx.push];omega
 |sl i g sz off len cap x hx hi hg h=>
  have hi':i<nn:=hi;refine .sl _ _ _ _ _ _ _ hx (Nat.lt_succ_of_lt hi') (fun o ho=> ?_) fun o ho hgo=> ?_
  ·rw[cY,if_neg (by omega)]at ho;exact hg o ho
  ·rw[cY,if_neg (by omega)]at ho
   have hb:(c.push nn B).β i=c.β i:=by simp[Cx.push];omega
   rw[hb];exact h o ho hgo
 |dR i g x hx hi hg h=>
  have hi':i<nn:=hi;refine .dR _ _ _ hx (Nat.lt_succ_of_lt hi') (fun o ho=> ?_) fun o ho hgo=> ?_
  ·rw[cY,if_neg (by omega)]at ho;exact hg o ho
  ·rw[cY,if_neg (by omega)]at ho
   rw[h o ho hgo];simp[Cx.push];omega
 |iface t v x _ ih=>exact .iface _ _ _ ih
 |agg l cs hl _ ih=>exact .agg _ _ hl ih
 |bn l cs hl _ ih=>exact .bn _ _ hl ih
 |func fn a b a' b' ha hb _ _ ih y8=>exact .func _ _ _ _ _ ha hb ih y8
theorem HX(hF:uP (LL P n ops) ms ord TT){done r:List qs}{listed:Array Bool}{pb:Nat->Nat}{c:Cx}{h:Heap}{w:World}{e:Env}{a:Act}{j:Nat}{ag:List Nat}
  (hd:xw P Γ n ops ord k kp c0 h0 w0 ds done ((j,false,ag)::r) listed pb c h w e a): ∃e',xw P Γ n ops ord k kp c0 h0 w0 ds (done++[(j,false,ag)]) r listed pb c h w e' a:=by
 have hmem:(j,false,ag)∈ord:=by rw[hd.split];simp
 obtain⟨o,ho,hE⟩:=kC (hF.LF _ hmem);have hag:ag=[]:=hE.again rfl;subst hag;have hnew:=HW hF hd (b:=(j,false,[])) (by simp) ho (hE.cls rfl);have eG:=hd.cont;rw[jd _ _ _ _ _ _ _ _ _ _ _ (hF.un _ hmem)]at eG;rw[ey]at eG;have ho':(LL P n ops)[j]? =some o:=ho;rw[ho']at eG;dsimp only at eG
 replace eG:=(jk eG).1
 have LG:=hF.pw;rw[hd.split,List.pairwise_append]at LG
 have hR: ∀b∈done,∃ob,(LL P n ops)[b.1]? =some ob/\S6 (LL P n ops) ms b (j,false,[]) ob o:=fun b hb=>by
  obtain⟨oa,ob,h1,h2,h3⟩:=fm (LG.2.2 b hb (j,false,[]) (by simp));have oL:(LL P n ops)[j]? =some ob:=h2;rw[ho']at oL;cases oL
  exact⟨oa,h1,h3⟩
 have fin: ∀(e1:Env) (v:SV),Nl e e1->((kB e o.guard=some true/\ ∀K' fG:SV->Heap->Prop,K' v h->bR P Γ o.op e1 h K' fG)\/(kB e o.guard=some false/\v= .bn []))->lD P Γ (LL P n ops) r (oV e1 o.dst v) h k kp->
   ∃e',xw P Γ n ops ord k kp c0 h0 w0 ds (done++[(j,false,[])]) r listed pb c h w e' a:=by
  intro e1 v yg pz hc;have gJ: ∀t,o.dst≠some t->Env.get (oV e1 o.dst v) t=Env.get e t:=fun t ht=>by rw[(nA e1 o.dst v t).2 ht,<-yg]
  have hread: ∀t∈o.reads,Env.get e t=Env.get (oV e1 o.dst v) t:=fun t ht=>(gJ t fun eN=>hE.self rfl t eN ht).symm
  refine⟨_,by rw[hd.split];simp,hd.rep,hd.ext,hd.size,hd.defers,hd.lsize,hc,fun i hi=> ?_,fun i i' hi hi' hu qV=>hd.Gj i i' hi hi' (fun b hb=>hu b (by simp[hb])) (fun b hb=>qV b (by simp[hb])),fun b hb hs=> ?_,hd.closed,fun t ht JR=> ?_,fun b hb hl ob cK=> ?_⟩
  ·rcases hd.dc i hi with⟨b,hb,he⟩|hp
   ·exact .inl ⟨b,by simp[hb],he⟩
   ·exact .inr hp
  ·rcases List.mem_append.1 hb with hb|hb
   ·exact hd.sd b hb hs
   ·simp only[List.mem_singleton]at hb;subst hb;cases hs
  ·have hne:o.dst≠some t:=ht (j,false,[]) (by simp) hnew o ho
   rw[gJ t hne];refine hd.T t (fun b hb=>ht b (by simp[hb])) fun i hi hu=>JR i hi fun b hb=> ?_
   rcases List.mem_append.1 hb with hb|hb
   ·exact hu b hb
   ·simp only[List.mem_singleton]at hb
    subst hb;intro he;have he':j=i:=he;subst he';rw[hi]at hnew;cases hnew
  ·rcases List.mem_append.1 hb with hb|hb
   ·obtain⟨TF,rS,hr⟩:=hR b hb
    rw[cK]at rS;cases rS
    refine(hd.Pd b hb hl ob cK).congr (fun t ht=>(gJ t fun eN=> ?_).symm) (fun t ht=>(gJ t fun eN=>hr.dst t ht eN).symm);have:=(hr.ba t eN ht).1;cases this
   ·simp only[List.mem_singleton]at hb
    subst hb;have rS:(LL P n ops)[j]? =some ob:=cK;rw[ho']at rS;cases rS
    refine⟨v,fun t ht=>by rw[(nA e1 o.dst v t).1 ht];exact .refl _,?_⟩;rw[<- pn hread];rcases pz with⟨h1,h2⟩|h1
    ·exact .inl ⟨h1,fun K' fG hk=>by rw[<- jl hread,jl (fun t _=>yg t)];exact h2 K' fG hk⟩
    ·exact .inr h1
 rcases lH eG with⟨hw,e1,yg,hp⟩|⟨hw,e1,yg,hp⟩
 ·obtain⟨v,hv,TK⟩:=vW (hE.cls rfl) hp
  rw[gH]at hv;exact fin e1 v yg (.inl ⟨hw,TK⟩) hv
 ·rw[gH]at hp
  exact fin e1 _ yg (.inr ⟨hw,rfl⟩) hp
theorem HY(gp:Γ.Ok P)(hF:uP (LL P n ops) ms ord TT){done r:List qs}{listed:Array Bool}{pb:Nat->Nat}{c:Cx}{h:Heap}{w:World}{e:Env}{a:Act}{j:Nat}{ag:List Nat}(hl:listed.getD j false=true)
  (hd:xw P Γ n ops ord k kp c0 h0 w0 ds done ((j,true,ag)::r) listed pb c h w e a): ∃c' h' e',xw P Γ n ops ord k kp c0 h0 w0 ds (done++[(j,true,ag)]) r listed pb c' h' w e' a:=by
 have hmem:(j,true,ag)∈ord:=by rw[hd.split];simp
 obtain⟨o,ho,hE⟩:=kC (hF.LF _ hmem);have hun:ep done j:=mP hF hd.split (b:=(j,true,ag)) (by simp);rcases hd.dc j hl with⟨b,hb,he⟩|uk
 ·exact absurd he (hun b hb)
 obtain⟨⟨o2,t,oH,eN,hgd,hm⟩,hge,hlt,hnn,hni⟩:=uk;have ho':(LL P n ops)[j]? =some o:=ho;rw[ho']at oH;obtain rfl:=Option.some.inj oH;have uQ:=vX hF hd.closed hl ho';have LG:=hF.pw;rw[hd.split,List.pairwise_append]at LG
 have hR: ∀b∈done,∃ob,(LL P n ops)[b.1]? =some ob/\S6 (LL P n ops) ms b (j,true,ag) ob o:=fun b hb=>by
  obtain⟨oa,ob,h1,h2,h3⟩:=fm (LG.2.2 b hb (j,true,ag) (by simp));have oL:(LL P n ops)[j]? =some ob:=h2;rw[ho']at oL;cases oL
  exact⟨oa,h1,h3⟩
 have eG:=hd.cont;rw[jd _ _ _ _ _ _ _ _ _ _ _ (hF.un _ hmem)]at eG;rw[ey]at eG;rw[ho']at eG;dsimp only at eG
 replace eG:=(jk eG).1
 rw[hgd]at eG;dsimp only[fU]at eG;obtain⟨nn,l⟩:=h
 have WV: ∀t'∈o.reads,VR c ⟨nn,l⟩ w (Env.get e t') (a.tmps.getD t' undef):=fun t' ht'=>by
  refine hd.T t' (fun b hb hl' o' u7 mC=> ?_) fun p hp uw op hop mC=> ?_
  ·obtain⟨ob,cK,hr⟩:=hR b hb
   rw[u7]at cK;cases cK
   rw[uQ _ (hr.ab t' mC ht')]at hl';cases hl'
  ·have h1:=hm.nr hop mC ht'
   rcases hd.dc p hp with⟨b,hb,he⟩|QT
   ·exact absurd he (uw b hb)
   ·obtain⟨o3,t3,LH,_,_,QV⟩:=QT.ex
    rw[hop]at LH;cases LH
    rcases QV.Np with h|h
    ·rw[h1.1]at h;cases h
    ·rw[h1.2]at h;cases h
 obtain⟨sz,elems,ty,C,V,hw,hlr,eG,WW⟩:=hm.TI WV eG;rw[eN]at eG;rw[gH]at eG;obtain⟨hc,hag⟩:=jm gp (fun q hq oi No=>hE.ag q hq oi No) eG;have S9: ∀ {v':SV} {x:Value},VR c ⟨nn,l⟩ w v' x->VR (c.push nn (pb j)) ⟨nn+1,(nn,.vec 0 sz elems ⟨false,some ty⟩)::l⟩ w v' x:=fun hv=>hv.name _ _
 have mI: ∀i,i≠nn->(c.push nn (pb j)).β i=c.β i:=fun i hi=>by simp[Cx.push,hi]
 have qt:(c.push nn (pb j)).β nn=pb j:=by simp[Cx.push]
 have ja: ∀b o',OR c ⟨nn,l⟩ w b o'->OR (c.push nn (pb j)) ⟨nn+1,(nn,.vec 0 sz elems ⟨false,some ty⟩)::l⟩ w b o':=by
  intro b o' ho';cases ho' with
  |vec g sz' elems sk C ty fz hw hle heq hty hc hf hcell=>exact .vec g sz' elems sk C ty fz hw hle heq hty hc hf fun i j e v x h1 h2 h3=>S9 (hcell i j e v x h1 h2 h3)
  |iter s pos hw=>exact .iter s pos hw
  |map es cl hw hs=>exact .map es cl hw hs
  |cP m since seen stepped r hw hm=>exact .cP m since seen stepped r hw (S9 hm)
  |lB g ty xs C fz hw hle hc=>exact .lB g ty xs C fz hw hle hc
 have TL: ∀i o',aV l i=some o'->i<nn:=fun i o' ho'=>hd.rep.lt i o' ho'
 have Dh:cF (c.push nn (pb j)) ⟨nn+1,(nn,.vec 0 sz elems ⟨false,some ty⟩)::l⟩ w:=by
  refine⟨fun i o' ho'=> ?_,fun i o' ho'=> ?_,fun i i' o' p' ho' hp' he=> ?_,fun i o' ho'=> ?_,hd.rep.im,hd.rep.dY⟩
  ·rw[cY]at ho'
   by_cases hi:nn=i
   ·subst hi;exact Nat.lt_succ_self _
   ·rw[if_neg hi]at ho';exact Nat.lt_succ_of_lt (TL i o' ho')
  ·rw[cY]at ho'
   by_cases hi:nn=i
   ·subst hi
    rw[if_pos rfl]at ho';cases ho'
    rw[qt];exact .vec 0 sz elems ⟨false,some ty⟩ C ty (0,0) hw (by rw[hlr.1];exact Nat.le_refl _) (fun _=>hlr.1.symm) (fun _ h=>(Option.some.inj h).symm) hlr.2.1 (by simp) fun i j' e' u x he hu hx=>S9 (hlr.2.2 i j' e' u x he hu hx)
   ·rw[if_neg hi]at ho'
    rw[mI i (fun e=>hi e.symm)];exact ja _ _ (hd.rep.obj i o' ho')
  ·rw[cY]at ho' hp'
   by_cases hi:nn=i
   ·by_cases hi':nn=i'
    ·omega
    ·rw[if_neg hi']at hp'
     rw[<- hi,qt,mI i' (fun e=>hi' e.symm)]at he;exact absurd he.symm (hnn i' p' hp')
   ·rw[if_neg hi]at ho'
    by_cases hi':nn=i'
    ·rw[<- hi',qt,mI i (fun e=>hi e.symm)]at he
     exact absurd he (hnn i o' ho')
    ·rw[if_neg hi']at hp'
     rw[mI i (fun e=>hi e.symm),mI i' (fun e=>hi' e.symm)]at he;exact hd.rep.inj i i' o' p' ho' hp' he
  ·rw[cY]at ho'
   by_cases hi:nn=i
   ·rw[<- hi,qt];exact hni
   ·rw[if_neg hi]at ho'
    rw[mI i (fun e=>hi e.symm)];exact hd.rep.apart i o' ho'
 have qu:Ext c0 h0 w0 (c.push nn (pb j)) ⟨nn+1,(nn,.vec 0 sz elems ⟨false,some ty⟩)::l⟩ w:=by
  have hx:=hd.ext;refine⟨hx.os,hx.tape,hx.output,hx.size,hx.frame,hx.shape,hx.im,hx.im',Nat.le_succ_of_le hx.dB,fun i o' hi ho'=> ?_,fun i o' ho'=> ?_⟩
  ·have YU:h0.dB<=nn:=hx.dB
   rw[cY,if_neg (by omega)]at ho';obtain⟨o2,h1,h2,h3,h4⟩:=hx.old i o' hi ho';exact⟨o2,h1,h2,h3,fun e=>by rw[mI i (by omega)];exact h4 e⟩
  ·rw[cY]at ho'
   by_cases hi:nn=i
   ·left;rw[<- hi,qt];exact hge
   ·rw[if_neg hi]at ho'
    rw[mI i (fun e=>hi e.symm)];exact hx.new i o' ho'
 have gJ: ∀t',t≠t'->Env.get (oV e (some t) V) t'=Env.get e t':=fun t' ht=>(nA e (some t) _ t').2 (fun e=>ht (Option.some.inj e))
 refine⟨_,_,_,by rw[hd.split];simp,Dh,qu,hd.size,hd.defers,hd.lsize,hc,fun i hi=> ?_,fun i i' hi hi' hu qV=>hd.Gj i i' hi hi' (fun b hb=>hu b (by simp[hb])) (fun b hb=>qV b (by simp[hb])),fun b hb hs=> ?_,hd.closed,fun t' ht JR=> ?_,fun b hb hl' ob cK=> ?_⟩
 ·by_cases hex: ∃b∈done,b.1=i
  ·obtain⟨b,hb,he⟩:=hex
   exact .inl ⟨b,by simp[hb],he⟩
  ·have Ta:ep done i:=fun b hb he=>hex ⟨b,hb,he⟩
   by_cases hij:i=j
   ·exact .inl ⟨(j,true,ag),by simp,hij.symm⟩
   ·rcases hd.dc i hi with h1|hp
    ·exact absurd h1 hex
    ·refine .inr ⟨hp.ex,hp.ge,hp.lt,fun q o' ho'=> ?_,hp.QU⟩
     rw[cY]at ho';by_cases hq:nn=q
     ·rw[<- hq,qt]
      intro he;exact hij (hd.Gj i j hi hl Ta hun he.symm)
     ·rw[if_neg hq]at ho'
      rw[mI q (fun e=>hq e.symm)];exact hp.HV q o' ho'
 ·rcases List.mem_append.1 hb with hb|hb
  ·exact hd.sd b hb hs
  ·simp only[List.mem_singleton]at hb;subst hb;exact hl
 ·by_cases TM:t=t'
  ·subst TM
   rw[(nA e (some t) V t).1 rfl];exact WW
  ·rw[gJ t' TM]
   refine S9 (hd.T t' (fun b hb=>ht b (by simp[hb])) fun i hi hu o3 TN=> ?_);by_cases hij:i=j
   ·rw[hij,ho']at TN
    cases TN
    rw[eN];exact fun e=>TM (Option.some.inj e)
   ·refine JR i hi (fun b hb=> ?_) o3 TN
    rcases List.mem_append.1 hb with hb|hb
    ·exact hu b hb
    ·simp only[List.mem_singleton]at hb;subst hb
     exact fun e=>hij e.symm
 ·rcases List.mem_append.1 hb with h|h
  ·obtain⟨TF,rS,hr⟩:=hR b h
   rw[cK]at rS;cases rS
   have hold:lK P Γ ob (oV e (some t) V) ⟨nn,l⟩:=(hd.Pd b h hl' ob cK).congr (fun t' ht=>(gJ t' fun mC=>by
    have:=(hr.ba t (by rw[eN]) (mC▸ht)).2;rw[uQ _ this]at hl';cases hl').symm) fun t' ht=>(gJ t' fun mC=>hr.dst t' ht (by rw[eN,mC])).symm
   have hns:b.2.1=false:=by
    cases hs:b.2.1 with
    |false=>rfl
    |true=>rw[hd.sd b h hs]at hl';cases hl'
   rcases hr.rd hns rfl with h1|h1|h1
   ·rw[uQ _ h1]at hl';cases hl'
   ·exact hold.heap h1
   ·obtain⟨v',q1,q2⟩:=hold
    rcases q2 with⟨q2,_⟩|q2
    ·obtain⟨WX,HZ,TO⟩:=kC (hF.LF b (by rw[hd.split];simp[h]))
     rw[cK]at HZ;cases HZ
     exact hag _ h1 ob cK (TO.cls hns) q2
    ·exact⟨v',q1,.inr q2⟩
  ·simp only[List.mem_singleton]at h;subst h
   have xZ:listed.getD j false=false:=hl';rw[hl]at xZ;cases xZ
theorem advance(gp:Γ.Ok P)(hF:uP (LL P n ops) ms ord TT): ∀(rest done:List qs) {listed:Array Bool} {pb:Nat->Nat} {c:Cx} {h:Heap} {w:World} {e:Env} {a:Act},xw P Γ n ops ord k kp c0 h0 w0 ds done rest listed pb c h w e a->
  ∃done' rest' c' h' e',xw P Γ n ops ord k kp c0 h0 w0 ds done' rest' listed pb c' h' w e' a/\(rest'=[]\/ ∃j ag r,rest'=(j,true,ag)::r/\listed.getD j false=false)
 | [],done,listed,pb,c,h,w,e,a,hd=>⟨done,[],c,h,e,hd,.inl rfl⟩
 |(j,true,ag)::r,done,listed,pb,c,h,w,e,a,hd=>by
  cases hl:listed.getD j false with
  |false=>exact⟨done,_,c,h,e,hd,.inr ⟨j,ag,r,rfl,hl⟩⟩
  |true=>
   obtain⟨c',h',e',hd'⟩:=HY gp hF hl hd;exact advance gp hF r _ hd'
 |(j,false,ag)::r,done,listed,pb,c,h,w,e,a,hd=>by
  obtain⟨e',hd'⟩:=HX hF hd;exact advance gp hF r _ hd'
end
theorem lM(listed:Array Bool)(i j:Nat)(hi:i<listed.size):(listed.setIfInBounds i true).getD j false=if j=i then true else listed.getD j false:=by
 rw[Array.getD_eq_getD_getElem?,Array.getElem?_setIfInBounds];by_cases h:j=i
 ·subst h;simp[hi]
 ·rw[if_neg (fun e=>h e.symm),if_neg h,Array.getD_eq_getD_getElem?]
def Hg(n:Nat)(listed:Array Bool):Nat:=((List.range n).filter fun i=> !listed.getD i false).length
theorem Bi{n:Nat}{listed:Array Bool}(h:Hg n listed=0): ∀i,i<n->listed.getD i false=true:=by
 intro i hi;unfold Hg at h;have:=List.eq_nil_of_length_eq_zero h;rw[List.filter_eq_nil_iff]at this;have:=this i (List.mem_range.2 hi);simpa using this
theorem filter_lt{α:Type}(p q:α->Bool): ∀(l:List α),(∀ x∈l,q x=true->p x=true)->(∃ x∈l,p x=true/\q x=false)->(l.filter q).length<(l.filter p).length
 | [],_,⟨x,hx,_⟩=>by cases hx
 |y::r,hpq,⟨x,hx,hpx,VI⟩=>by
  have hle: ∀l:List α,(∀ x∈l,q x=true->p x=true)->(l.filter q).length<=(l.filter p).length:=by
   intro l
   induction l with
   |nil=>intro _;simp
   |cons z l ih=>
    intro hl;have:=ih fun x hx=>hl x (by simp[hx])
    simp only[List.filter_cons];cases hq:q z
    ·cases hp:p z<;>simp<;>omega
    ·rw[hl z (by simp) hq];simp;omega
  rcases List.mem_cons.1 hx with rfl|hx'
  ·simp only[List.filter_cons,hpx,VI]
   have:=hle r fun x hx=>hpq x (by simp[hx])
   simp;omega
  ·have ih:=filter_lt p q r (fun x hx=>hpq x (by simp[hx])) ⟨x,hx',hpx,VI⟩
   simp only[List.filter_cons];cases hq:q y
   ·cases hp:p y<;>simp<;>omega
   ·rw[hpq y (by simp) hq];simp;omega
theorem Fe{n:Nat}{listed:Array Bool}{i:Nat}(hi:i<n)(hs:i<listed.size)(hl:listed.getD i false=false):Hg n (listed.setIfInBounds i true)<Hg n listed:=by
 unfold Hg;refine filter_lt _ _ _ (fun j _ hj=> ?_) ⟨i,List.mem_range.2 hi,by simpa using hl,by rw[lM _ _ _ hs];simp⟩;rw[lM _ _ _ hs]at hj;by_cases h:j=i
 ·subst h;simp at hj
 ·rw[if_neg h]at hj;exact hj
theorem tn{P:Program}{n:Nat}{ops:Array Oper}{i:Nat}(hi:i<ops.size):(LL P n ops)[i]? =some (bP P n ops true ops[i]):=by
 simp[LL,hi]
theorem vY{P:Program}{n:Nat}{ops:Array Oper}:(LL P n ops).length=ops.size:=by simp[LL]
theorem Bj(e:Edge):kj e=Region.binds .any e:=by
 unfold kj Region.binds;cases e.ground<;>rfl
section
variable {P:Program} {Γ:bZ} {n:Nat} {ops:Array Oper} {ord:List qs} {TT:List Nat} {ms:List Nat} {k:Env->Heap->Prop} {kp:SV->Env->Heap->Prop} {Q:Exit->Act->World->Prop} {c0:Cx} {h0:Heap} {w0:World} {ds:List Deferred}
theorem lN{listed:Array Bool}{i:Nat}(hs:listed.size=ops.size)(hi:i∈Region.ready .any ops listed): ∃hlt:i<ops.size,listed.getD i false=false/\ ∀e∈(ops[i]).after.toList,kj e=true->listed.getD e.on false=true:=by
 unfold Region.ready at hi;obtain⟨h1,h2⟩:=List.mem_filter.1 hi;have hlt:=List.mem_range.1 h1;refine⟨hlt,?_⟩;simp only[Bool.and_eq_true,Bool.not_eq_true']at h2;have hlt':i<listed.size:=by omega
 have e1: ∀d,listed.getD i d=listed[i]:=fun d=>by simp[Array.getD_eq_getD_getElem?,hlt']
 refine⟨by rw[e1];rw[e1]at h2;exact h2.1,fun e he hb=> ?_⟩;have h3:=h2.2;rw[Array.getElem?_eq_getElem hlt]at h3;simp only[Option.map_some,Option.getD_some]at h3;rw[<- Array.all_toList]at h3;have:=List.all_eq_true.1 h3 e he;rw[<- Bj,hb]at this;simpa using this
theorem qW(hF:uP (LL P n ops) ms ord TT){listed:Array Bool}(hs:listed.size=ops.size)(hr:Region.ready .any ops listed=[]): ∀(m i:Nat),i<m->i<ops.size->listed.getD i false=true
 |0,i,h,_=>by omega
 |m+1,i,h,hi=>by
  cases hl:listed.getD i false with
  |true=>rfl
  |false=>
   exfalso
   have hmem:i∈Region.ready .any ops listed:=by
    unfold Region.ready;refine List.mem_filter.2 ⟨List.mem_range.2 hi,?_⟩;have hlt':i<listed.size:=by omega
    have e1: ∀d,listed.getD i d=listed[i]:=fun d=>by simp[Array.getD_eq_getD_getElem?,hlt']
    rw[e1]at hl;simp only[e1,hl,Bool.not_false,Bool.true_and];rw[Array.getElem?_eq_getElem hi];simp only[Option.map_some,Option.getD_some];rw[<- Array.all_toList];refine List.all_eq_true.2 fun e he=> ?_
    cases hb:Region.binds .any e with
    |false=>rfl
    |true=>
     have QW:(bP P n ops true ops[i]).op.qB=false:=by
      rcases hF.all i (by rw[vY];exact hi)with⟨b,Bk,tq⟩|hT
      ·obtain⟨o,ho,hE⟩:=kC (hF.LF b Bk)
       rw[tq,tn hi]at ho;cases ho
       exact hE.good
      ·obtain⟨o,ho,hg,_⟩:=hF.tail i hT
       rw[tn hi]at ho;cases ho
       exact hg
     obtain⟨_,_,_,hpre,_⟩:=ny QW
     have WY:e.on∈(bP P n ops true ops[i]).pre:=by
      rw[hpre];exact List.mem_filterMap.2 ⟨e,he,by rw[Bj,hb];rfl⟩
     have hlt:=(hF.mask i _ (tn hi)).2 _ WY;have:=qW hF hs hr m e.on (by omega) (by omega);simpa using this
   rw[hr]at hmem;cases hmem
theorem QX(gp:Γ.Ok P)(hF:uP (LL P n ops) ms ord TT)
  (hK: ∀(fuel:Nat) (listed:Array Bool) (e:Env) (h:Heap) (c:Cx) (a:Act) (w:World),Hg ops.size listed<=fuel->listed.size=ops.size->(∀ i,i<ops.size->i∉TT->listed.getD i false=true)->(∀ i∈TT,listed.getD i false=false)->
   k e h->cF c h w->Ext c0 h0 w0 c h w->ER c h w e a.tmps->a.tmps.size=n->a.defers=ds->wpAny P .any ops Q fuel listed a w)
  (TQ: ∀v x h c a w,kp v [] h->cF c h w->Ext c0 h0 w0 c h w->a.tmps.size=n->a.defers=ds->VR c h w v x->Q (.panic [{v:=x,recovered:=false}]) a w)(Ff:cF c0 h0 w0):
  ∀(fuel:Nat) (done rest:List qs) (listed:Array Bool) (pb:Nat->Nat) (c:Cx) (h:Heap) (w:World) (e:Env) (a:Act),(∀ i∈TT,listed.getD i false=false)->Hg ops.size listed<=fuel->xw P Γ n ops ord k kp c0 h0 w0 ds done rest listed pb c h w e a->wpAny P .any ops Q fuel listed a w:=by
 have LI: ∀b∈ord,b.1<ops.size:=fun b hb=>by
  obtain⟨o,ho,_⟩:=kC (hF.LF b hb);rcases Nat.lt_or_ge b.1 (LL P n ops).length with h|h
  ·rw[vY]at h;exact h
  ·rw[List.getElem?_eq_none h]at ho;cases ho
 have LJ: ∀b∈ord,b.1∉TT:=fun b hb hT=>by
  obtain⟨o,ho,_,_,h2⟩:=hF.tail _ hT;have h3:=h2 b hb;have:=Fc hF (b.1+1) b.1 (Nat.lt_succ_self _) ho b.1 h3;omega
 have hend: ∀(fuel:Nat) (done rest:List qs) (listed:Array Bool) (pb:Nat->Nat) (c:Cx) (h:Heap) (w:World) (e:Env) (a:Act),(∀ i,i<ops.size->i∉TT->listed.getD i false=true)->(∀ i∈TT,listed.getD i false=false)->Hg ops.size listed<=fuel->xw P Γ n ops ord k kp c0 h0 w0 ds done rest listed pb c h w e a->wpAny P .any ops Q fuel listed a w:=by
  intro fuel done rest listed pb c h w e a hall JS hu hd;obtain⟨done',rest',c',h',e',hd',ja⟩:=advance gp hF rest done hd
  have xj:rest'=[]:=by
   rcases ja with h|⟨j,ag,r,rfl,h1⟩
   ·exact h
   ·have Di:(j,true,ag)∈ord:=by rw[hd'.split];simp
    have h2:=hall j (LI _ Di) (LJ _ Di);rw[h2]at h1;cases h1
  subst xj;have hc:=hd'.cont
  exact hK fuel listed e' h' c' a w hu hd'.lsize hall JS hc hd'.rep hd'.ext (fun t=>hd'.T t (fun b hb hl=>by
   have Bk:b∈ord:=by rw[hd'.split];simp[hb]
   have:=hall b.1 (LI b Bk) (LJ b Bk);rw[this]at hl;cases hl) fun i hi hu o ho=>by
   have hil:i<(LL P n ops).length:=by
    rcases Nat.lt_or_ge i (LL P n ops).length with h|h
    ·exact h
    ·rw[List.getElem?_eq_none h]at ho;cases ho
   rcases hF.all i hil with⟨b,hb,he⟩|hT
   ·rw[hd'.split,List.append_nil]at hb
    exact absurd he (hu b hb)
   ·rw[JS i hT]at hi;cases hi) hd'.size hd'.defers
 intro fuel
 induction fuel with
 |zero=>
  intro done rest listed pb c h w e a JS hu hd;have hall:=Bi (Nat.le_zero.1 hu);exact hend 0 done rest listed pb c h w e a (fun i hi _=>hall i hi) JS hu hd
 |succ fuel ih=>
  intro done rest listed pb c h w e a JS hu hd;by_cases H6: ∀i,i<ops.size->i∉TT->listed.getD i false=true
  ·exact hend (fuel+1) done rest listed pb c h w e a H6 JS hu hd
  refine⟨fun hr=>absurd (fun i hi _=>qW hF hd.lsize hr (i+1) i (Nat.lt_succ_self _) hi) H6,fun i hi=> ?_⟩;obtain⟨hlt,hl,hpre⟩:=lN hd.lsize hi;obtain⟨done',rest',c1,h1,e',hd',ja⟩:=advance gp hF rest done hd;clear hd;clear c h;revert hd';generalize x8:c1=c;generalize WZ:h1=h;intro hd';clear x8 WZ c1 h1;have oH:=tn (P:=P) (n:=n) hlt
  have VJ:i∉TT:=fun hT=>H6 fun j hj W0=>by
   obtain⟨o,ho,hg,_,uQ⟩:=hF.tail i hT;rw[tn hlt]at ho;cases ho
   obtain⟨_,_,_,QY,_⟩:=ny hg
   have Fg: ∀j∈(bP P n ops true ops[i]).pre,listed.getD j false=true:=fun j hj=>by
    rw[QY]at hj;obtain⟨ed,QZ,xu⟩:=List.mem_filterMap.1 hj;cases hbd:kj ed
    ·rw[hbd]at xu;cases xu
    ·rw[hbd]at xu
     simp only[cond_true,Option.some.injEq]at xu;rw[<- xu];exact hpre ed QZ hbd
   rcases hF.all j (by rw[vY];exact hj)with⟨b,hb,rfl⟩|h
   ·exact n5 hF hd'.closed (i+1) i _ (Nat.lt_succ_self _) oH Fg _ (uQ b hb)
   ·exact absurd h W0
  obtain⟨b,Bk,tq⟩:=(hF.all i (by rw[vY];exact hlt)).resolve_right VJ
  have Nr: ∀j∈TT,(listed.setIfInBounds i true).getD j false=false:=fun j hj=>by
   rw[lM listed i j (by rw[hd'.lsize];exact hlt),if_neg (show ¬j=i from fun he=>VJ (by rw[<- he];exact hj))];exact JS j hj
  obtain⟨o,ho,hE⟩:=kC (hF.LF b Bk);rw[tq,oH]at ho;cases ho
  obtain⟨eN,hop,Ns,QY,_⟩:=ny hE.good
  have Fg: ∀j∈(bP P n ops true ops[i]).pre,listed.getD j false=true:=fun j hj=>by
   rw[QY]at hj;obtain⟨ed,QZ,xu⟩:=List.mem_filterMap.1 hj;cases hbd:kj ed
   ·rw[hbd]at xu;cases xu
   ·rw[hbd]at xu
    simp only[cond_true,Option.some.injEq]at xu;rw[<- xu];exact hpre ed QZ hbd
  have uQ: ∀q,Nat.testBit (ms.getD i 0) q=true->listed.getD q false=true:=n5 hF hd'.closed (i+1) i _ (Nat.lt_succ_self _) oH Fg;have hil:i<listed.size:=by rw[hd'.lsize];exact hlt
  have qV:Hg ops.size (listed.setIfInBounds i true)<=fuel:=by
   have:=Fe hlt hil hl;omega
  have gJ:=fun j=>lM listed i j hil
  have hmono: ∀j,listed.getD j false=true->(listed.setIfInBounds i true).getD j false=true:=fun j hj=>by rw[gJ];split<;>simp[hj]
  have hun: ∀j,(listed.setIfInBounds i true).getD j false=false->listed.getD j false=false/\j≠i:=fun j hj=>by
   rw[gJ]at hj;by_cases h:j=i
   ·rw[if_pos h]at hj;cases hj
   ·rw[if_neg h]at hj;exact⟨hj,h⟩
  have hclosed: ∀j,(listed.setIfInBounds i true).getD j false=true-> ∀o,(LL P n ops)[j]? =some o-> ∀q∈o.pre,(listed.setIfInBounds i true).getD q false=true:=by
   intro j hj o ho q hq;rw[gJ]at hj;by_cases h:j=i
   ·subst h;rw[oH]at ho;cases ho;exact hmono q (Fg q hq)
   ·rw[if_neg h]at hj;exact hmono q (hd'.closed j hj o ho q hq)
  have hls:(listed.setIfInBounds i true).size=ops.size:=by simp[hd'.lsize]
  have hput: ∀x t,(a.put ops[i].dst x).tmps.getD t undef=if ops[i].dst=some t then x else a.tmps.getD t undef:=by
   intro x t;cases mC:ops[i].dst with
   |none=>simp[Act.put]
   |some d=>
    simp only[Act.put,Array.getD_eq_getD_getElem?,Array.getElem?_setIfInBounds,Option.some.injEq];by_cases h:d=t
    ·subst h
     have hd1:d<a.tmps.size:=by rw[hd'.size];exact Ns d mC
     simp[hd1]
    ·simp[h]
  have xy:=hF.pw;rw[hd'.split,List.pairwise_append]at xy
  have vZ: ∀p,listed.getD p false=true->ep done' p-> ∀o,(LL P n ops)[p]? =some o-> ∃bp,bp∈rest'/\bp.1=p/\ ∀q,Nat.testBit (ms.getD p 0) q=true->listed.getD q false=true:=by
   intro p hp uw o ho
   have Lu:p<(LL P n ops).length:=by
    rcases Nat.lt_or_ge p (LL P n ops).length with h|h
    ·exact h
    ·rw[List.getElem?_eq_none h]at ho;cases ho
   obtain⟨bp,Hh,Q0⟩:=(hF.all p Lu).resolve_right (fun hT=>by rw[JS p hT]at hp;cases hp);rw[hd'.split]at Hh;rcases List.mem_append.1 Hh with h|h
   ·exact absurd Q0 (uw bp h)
   ·exact⟨bp,h,Q0,vX hF hd'.closed hp ho⟩
  by_cases hin:b∈done'
  ·
   have hst:b.2.1=false:=by
    cases hs:b.2.1 with
    |false=>rfl
    |true=>
     have:=hd'.sd b hin hs;rw[tq,hl]at this;cases this
   obtain⟨v,hv1,TR⟩:=hd'.Pd b hin (by rw[tq];exact hl) _ (by rw[tq];exact oH)
   have hT: ∀t∈(bP P n ops true ops[i]).reads,VR c h w (Env.get e' t) (a.tmps.getD t undef):=by
    intro t ht
    refine hd'.T t (fun b' hb' hl' o' ho' mC=> ?_) fun p hp uw op Bl mC=>by
     obtain⟨bp,Hh,pE,hpa⟩:=vZ p hp uw op Bl;obtain⟨oa,ob,h1,h2,hr⟩:=fm (xy.2.2 b hin bp Hh);rw[tq,oH]at h1;cases h1
     rw[pE,Bl]at h2;cases h2
     have:=(hr.ba t mC ht).2;rw[pE,tq]at this;rw[hpa _ this]at hl;cases hl
    rcases pq xy.1 b' hb' b hin with rfl|hR|hR
    ·rw[tq,oH]at ho';cases ho'
     exact hE.self hst t mC ht
    ·obtain⟨oa,ob,h1,h2,hr⟩:=fm hR
     rw[ho']at h1;cases h1
     rw[tq,oH]at h2;cases h2
     have:=hr.ab t mC ht;rw[tq]at this;rw[uQ _ this]at hl';cases hl'
    ·obtain⟨oa,ob,h1,h2,hr⟩:=fm hR
     rw[ho']at h2;cases h2
     rw[tq,oH]at h1;cases h1
     have:=(hr.ba t mC ht).1;rw[hd'.sd b' hb' this]at hl';cases hl'
   have Q1: ∀p,listed.getD p false=true->ep done' p-> ∀o t,(LL P n ops)[p]? =some o->o.dst=some t\/t∈o.reads->ops[i].dst≠some t:=by
    intro p hp uw o t ho yh hit;obtain⟨bp,Hh,pE,hpa⟩:=vZ p hp uw o ho;obtain⟨oa,ob,h1,h2,hr⟩:=fm (xy.2.2 b hin bp Hh);rw[tq,oH]at h1;cases h1
    rw[pE,ho]at h2;cases h2
    rcases yh with yh|yh
    ·exact hr.dst t (by rw[eN];exact hit) yh
    ·have:=hr.ab t (by rw[eN];exact hit) yh
     rw[pE,tq]at this;rw[hpa _ this]at hl;cases hl
   have hdc: ∀(x:Value) (c':Cx) (w':World),Ext c h w c' h w'-> ∀j,(listed.setIfInBounds i true).getD j false=true->(∃ b∈done',b.1=j)\/tj P n ops w0 pb c' h w' (a.put ops[i].dst x) j:=fun x c' w' hx' j hj=>by
    rw[gJ]at hj;by_cases h:j=i
    ·exact .inl ⟨b,hin,by rw[tq,h]⟩
    ·rw[if_neg h]at hj
     by_cases hex: ∃b∈done',b.1=j
     ·exact .inl hex
     ·have W1:ep done' j:=fun b hb he=>hex ⟨b,hb,he⟩
      refine .inr (((hd'.dc j hj).resolve_left hex).mono hx' fun o t ho yh=> ?_);rw[hput,if_neg (Q1 j hj W1 o t ho yh)]
   have H7: ∀p q,(listed.setIfInBounds i true).getD p false=true->(listed.setIfInBounds i true).getD q false=true->ep done' p->ep done' q->pb p=pb q->p=q:=by
    intro p q hp hq uw Fh he;have hpi:p≠i:=fun h=>uw b hin (by rw[tq,h])
    have hU:q≠i:=fun h=>Fh b hin (by rw[tq,h])
    rw[gJ,if_neg hpi]at hp;rw[gJ,if_neg hU]at hq;exact hd'.Gj p q hp hq uw Fh he
   have fin: ∀(x:Value) (c':Cx) (w':World),cF c' h w'->Ext c h w c' h w'->(∀ t,ops[i].dst=some t->VR c' h w' (Env.get e' t) x)->wpAny P .any ops Q fuel (listed.setIfInBounds i true) (a.put ops[i].dst x) w':=by
    intro x c' w' hr' hx' W2;refine ih done' rest' _ pb c' h w' e' _ Nr qV ⟨hd'.split,hr',hd'.ext.trans Ff hx',by rw[kA];exact hd'.size,by rw[put_defers];exact hd'.defers,hls,hd'.cont,hdc x c' w' hx',H7,fun b' hb' hs=>hmono _ (hd'.sd b' hb' hs),hclosed,fun t ht JR=> ?_,fun b' hb' hl' o' ho'=>hd'.Pd b' hb' (hun _ hl').1 o' ho'⟩;rw[hput];by_cases hdt:ops[i].dst=some t
    ·rw[if_pos hdt];exact W2 t hdt
    ·rw[if_neg hdt]
     refine(hd'.T t (fun b' hb' hl' o' ho'=> ?_) fun p hp uw=>JR p (hmono p hp) uw).mono hd'.rep hx';by_cases VK:b'.1=i
     ·rw[VK,oH]at ho';cases ho'
      rw[eN];exact hdt
     ·exact ht b' hb' (by rw[gJ,if_neg VK];exact hl') o' ho'
   rcases TR with⟨hw,TR⟩|⟨hw,rfl⟩
   ·refine qb gp (b:=true) (Array.getElem?_eq_getElem hlt) hE.good hd'.rep hT hd'.size hw (k:=fun v' h'=>v'=v/\h'=h) (kp:=fun _ _=>False) (fun _=>TR _ _ ⟨rfl,rfl⟩) (fun _ v' x h' c' w' hk hr' hx' nX=> ?_) (fun _ v' x h' c' w' hk=>hk.elim) (fun hf=>by cases hf)
    obtain⟨rfl,rfl⟩:=hk;exact fin x c' w' hr' hx' fun t ht=>(hv1 t (by rw[eN];exact ht)).vr nX
   ·refine qb gp (b:=false) (Array.getElem?_eq_getElem hlt) hE.good hd'.rep hT hd'.size hw (k:=fun _ _=>False) (kp:=fun _ _=>False) (fun hf=>by cases hf) (fun hf=>by cases hf) (fun hf=>by cases hf) (fun _=> ?_)
    exact fin _ c w hd'.rep .refl fun t ht=>(hv1 t (by rw[eN];exact ht)).vr <| .pure (.bn _ _ rfl fun i v x hv=>by simp at hv)
  ·
   have w7:b∈rest':=by
    rw[hd'.split]at Bk;rcases List.mem_append.1 Bk with h|h
    ·exact absurd h hin
    ·exact h
   rcases ja with rfl|⟨j,ag,r,rfl,VL⟩
   ·cases w7
   have pz:b=(j,true,ag)\/Hf (bP P n ops true ops[i])=true\/(u0 (bP P n ops true ops[i])=true/\i∈ag):=by
    rcases List.mem_cons.1 w7 with h|h
    ·exact .inl h
    ·right
     obtain⟨oa,ob,h1,h2,hr⟩:=fm ((List.pairwise_cons.1 xy.2.1).1 b h);rw[tq,oH]at h2;cases h2
     rcases hr.st rfl with h3|h3
     ·rw[tq]at h3
      have h4:listed.getD j false=true:=uQ _ h3;rw[h4]at VL;cases VL
     ·rw[tq]at h3;exact h3
   have Ta:ep done' i:=fun b' hb' he=>by
    have:=mP hF hd'.split w7 b' hb';rw[tq]at this;exact this he
   by_cases VM:b=(j,true,ag)
   case neg=>
    have TS:=pz.resolve_left VM
    have hgd:(bP P n ops true ops[i]).guard=none:=by
     rcases TS with h1|h1
     ·obtain⟨t,ty,sz,v,pre,Hi,_⟩:=zu h1
      rw[Hi]
     ·obtain⟨t,ty,sz,z,m,ps,pre,Hi⟩:=u6 h1.1
      rw[Hi]
    have TU:ops[i].guard=none:=by
     obtain⟨_,_,_,_,hg⟩:=ny hE.good;cases hgo:ops[i].guard with
     |none=>rfl
     |some gw=>
      obtain⟨q,want⟩:=gw;rw[hgo]at hg;obtain⟨t',_,_,hg⟩:=hg;rw[hgd]at hg;cases hg
    obtain⟨t,x,C,ty,mC,hrun,Q2⟩: ∃t x C ty,ops[i].dst=some t/\(execOp a.eval ops[i]).run P w= .ok (.value x) (w.alloc (.cells C ty))/\Made (LL P n ops) (bP P n ops true ops[i]) t w.heap.size (w.alloc (.cells C ty)) (a.put ops[i].dst x):=by
     rcases TS with h1|⟨h1,h2⟩
     ·obtain⟨t,ty,sz,v,pre,Hi,hvl,TJ⟩:=zu h1
      have Nt:l9 P ops[i].op= .box ty sz (.const v):=by rw[<- hop,Hi]
      have mC:ops[i].dst=some t:=by rw[<- eN,Hi]
      obtain⟨x,hrun,Qs⟩:=HU (P:=P) (w:=w) (a:=a) (o:=ops[i]) Nt;have hxs:x.cells.size=v.cells.length:=(oY (c:=c) (h:=h) (w:=w) (.pure (Qs _ _)) TJ).1;exact⟨t,_,_,_,mC,hrun,.inl ⟨h1,by rw[Hi];rfl,ty,sz,v,x.cells,by rw[Hi],hvl,TJ,by rw[hput,if_pos mC],ei _ _,by rw[hxs];exact hvl,fun j' u y hu hy Im w'=>(Qs Im w').cells hu hy⟩⟩
     ·obtain⟨t,ty,sz,z0,m,parts,pre,Hi⟩:=u6 h1
      have mC:ops[i].dst=some t:=by rw[<- eN,Hi]
      have Nt:l9 P ops[i].op= .buildSlice ty sz z0 m parts:=by rw[<- hop,Hi]
      obtain⟨tt,ps,ti,z,W3,W4,hi1,Tr,vR,hs1,kn,rfl,rfl,rfl⟩:=Ka Nt;have Di:(j,true,ag)∈ord:=by rw[hd'.split];simp
      obtain⟨oj,W5,W6⟩:=kC (hF.LF _ Di);have TV:=W6.lk i h2 _ oH h1;have eG:=hd'.cont;rw[jd _ _ _ _ _ _ _ _ _ _ _ (hF.un _ Di)]at eG;have TW:(LL P n ops)[j]? =some oj:=W5;rw[ey,TW]at eG;dsimp only at eG;have Fi:=(jk eG).2 i h2 _ oH h1;have Nu:(bP P n ops true ops[i]).op= .buildSlice ty ti.size (bH 4 z) m (ps.toList.map fun(j,x)=>(j,aK x)):=by rw[Hi]
      rw[Nu]at Fi;simp only[bR,kq]at Fi
      have hsub: ∀t'∈(ps.toList.map fun(j,x)=>(j,aK x)).flatMap (fun p=>p.2.use),t'∈(bP P n ops true ops[i]).reads:=fun t' ht'=>by
       unfold aJ.reads;rw[Nu];exact List.mem_append_left _ ht'
      have Nn:ER c h w (Env.only (bP P n ops true ops[i]).reads e') a.tmps:=fun t'=>by
       rw[lI];split
       ·rename_i ht'
        refine hd'.T t' (fun b' hb' hl' o' ho' Nv=> ?_) fun p hp uw op Bl Nv=> ?_
        ·obtain⟨oa,ob,q1,q2,hr⟩:=fm (xy.2.2 b' hb' b w7)
         rw[ho']at q1;cases q1
         rw[tq,oH]at q2;cases q2
         have:=hr.ab t' Nv ht';rw[tq]at this;rw[uQ _ this]at hl';cases hl'
        ·have q1:=TV p op t' Bl Nv ht'
         rcases hd'.dc p hp with⟨b',hb',he⟩|QT
         ·exact absurd he (uw b' hb')
         ·obtain⟨o3,t3,LH,_,_,QV⟩:=QT.ex
          rw[Bl]at LH;cases LH
          rcases QV.Np with h|h
          ·rw[q1.1]at h;cases h
          ·rw[q1.2]at h;cases h
       ·exact .undef
      rw[mB (e':=Env.only (bP P n ops true ops[i]).reads e') (fun t' ht'=>by rw[lI,if_pos (hsub t' ht')])]at Fi;have hzl: ∀(c:Cx) (h:Heap) (w:World),LR c h w ti.size (List.replicate m (bH 4 z)) ((Array.range (m*ti.size)).map (z.cells[· %z.cells.size]!)):=fun c h w=>rP (.pure (eF 4 z)) kn hs1 m
      obtain⟨cs',C',_,hf,_,_⟩:=ju Nn ti.size ps.toList _ _ (hzl _ _ _) Fi
      have Q3:t∉(bP P n ops true ops[i]).reads:=fun hr=>by
       have:=(TV i _ t oH (by rw[eN];exact mC) hr).2;rw[h1]at this;cases this
      refine⟨t,_,C',ty,mC,oZ W3 W4 hi1 Tr vR hf,.inr ⟨h1,TV,ty,ti.size,bH 4 z,m,ps.toList,_,C',Nu,hzl,?_,by rw[hput,if_pos mC],ei _ _⟩⟩
      have ku:(ps.toList.map fun(j,x)=>(j,(a.put ops[i].dst (.slice (some ⟨w.heap.size,0,none⟩) m m)).eval x))=ps.toList.map fun(j,x)=>(j,a.eval x):=by
       refine List.map_congr_left fun p hp=> ?_
       obtain⟨j',x⟩:=p;dsimp only;rw[uv (a:=a) x fun t' ht'=> ?_];rw[hput,if_neg];rw[mC];intro he;refine Q3 ?_;rw[Option.some.inj he];exact hsub t' (List.mem_flatMap.2 ⟨(j',aK x),List.mem_map.2 ⟨(j',x),hp,rfl⟩,ht'⟩)
      rw[ku];exact hf
    unfold wpOp;rw[Array.getElem?_eq_getElem hlt];dsimp only;rw[if_pos (by simp[Region.wanted,TU])];refine .inl ?_;unfold Oper.wp;rw[hrun,Oper.upon_value];have hx':Ext c h w c h (w.alloc (.cells C ty)):=Gi _
    have hnm: ∀q,listed.getD q false=true->ep done' q->pb q<w.heap.size:=fun q hq Fh=>by
     rcases hd'.dc q hq with⟨b',hb',he⟩|hp
     ·exact absurd he (Fh b' hb')
     ·exact hp.lt
    refine ih done' _ _ (fun q=>if q=i then w.heap.size else pb q) c h _ e' _ Nr qV ⟨hd'.split,HT hd'.rep hx' (fun q o ho=>gL w _ _ (hd'.rep.obj q o ho).lt),hd'.ext.trans Ff hx',by rw[kA];exact hd'.size,by rw[put_defers];exact hd'.defers,hls,hd'.cont,fun q hq=> ?_,fun p q hp hq uw Fh he=> ?_,
     fun b' hb' hs=>hmono _ (hd'.sd b' hb' hs),hclosed,fun t' ht JR=> ?_,fun b' hb' hl' o' ho'=>hd'.Pd b' hb' (hun _ hl').1 o' ho'⟩
    ·rw[gJ]at hq
     by_cases hU:q=i
     ·subst hU
      refine .inr ⟨⟨_,t,oH,by rw[eN];exact mC,hgd,by rw[if_pos rfl];exact Q2⟩,?_,?_,fun q' o' ho'=> ?_,fun hb=> ?_⟩
      ·rw[if_pos rfl];exact hd'.ext.size
      ·rw[if_pos rfl,lq];exact Nat.lt_succ_self _
      ·rw[if_pos rfl]
       have:=(hd'.rep.obj q' o' ho').lt;omega
      ·rw[if_pos rfl]at hb
       have:=hd'.rep.im _ hb;omega
     ·rw[if_neg hU]at hq
      by_cases hex: ∃b∈done',b.1=q
      ·exact .inl hex
      ·have Fh:ep done' q:=fun b hb he=>hex ⟨b,hb,he⟩
       have hp:=(((hd'.dc q hq).resolve_left hex).mono (a':=a.put ops[i].dst x) hx' fun o t' ho yh=>by
        rw[hput,if_neg];intro he;rcases yh with yh|yh
        rotate_left
        ·obtain⟨o3,t3,LH,_,_,QV⟩:=((hd'.dc q hq).resolve_left hex).ex
         rw[ho]at LH;cases LH
         have q1:=QV.nr oH (by rw[eN];exact he) yh;rcases TS with h|h
         ·rw[q1.1]at h;cases h
         ·rw[q1.2]at h;cases h.1
        obtain⟨bp,Hh,pE,_⟩:=vZ q hq Fh o ho;have hne:bp≠b:=fun h=>hU (by rw[<- pE,h,tq])
        rcases pq xy.2.1 bp Hh b w7 with h|h|h
        ·exact hne h
        ·obtain⟨oa,ob,h1,h2,hr⟩:=fm h
         rw[pE,ho]at h1;cases h1
         rw[tq,oH]at h2;cases h2
         exact hr.dst t' yh (by rw[eN];exact he)
        ·obtain⟨oa,ob,h1,h2,hr⟩:=fm h
         rw[tq,oH]at h1;cases h1
         rw[pE,ho]at h2;cases h2
         exact hr.dst t' (by rw[eN];exact he) yh)
       refine .inr ⟨?_,?_,?_,?_,?_⟩
       ·have:=hp.ex
        simpa only[if_neg hU]using this
       ·simpa only[if_neg hU]using hp.ge
       ·simpa only[if_neg hU]using hp.lt
       ·simpa only[if_neg hU]using hp.HV
       ·simpa only[if_neg hU]using hp.QU
    ·rw[gJ]at hp hq
     by_cases hpi:p=i<;>by_cases hU:q=i
     ·rw[hpi,hU]
     ·rw[if_pos hpi,if_neg hU]at he
      rw[if_neg hU]at hq;have:=hnm q hq Fh;omega
     ·rw[if_neg hpi,if_pos hU]at he
      rw[if_neg hpi]at hp;have:=hnm p hp uw;omega
     ·rw[if_neg hpi,if_neg hU]at he
      rw[if_neg hpi]at hp;rw[if_neg hU]at hq;exact hd'.Gj p q hp hq uw Fh he
    ·have hne:t≠t':=fun h=>JR i (by rw[gJ,if_pos rfl]) Ta _ oH (by rw[eN,mC,h])
     rw[hput,if_neg (by rw[mC];exact fun h=>hne (Option.some.inj h))];refine(hd'.T t' (fun b' hb' hl' o' ho'=>ht b' hb' ?_ o' ho') fun p hp uw=>JR p (hmono p hp) uw).mono hd'.rep hx';rw[gJ,if_neg (fun h=>Ta b' hb' h)];exact hl'
   subst VM;have hji:j=i:=tq;subst hji
   have hR: ∀b'∈done',∃ob,(LL P n ops)[b'.1]? =some ob/\S6 (LL P n ops) ms b' (j,true,ag) ob (bP P n ops true ops[j]):=fun b' hb'=>by
    obtain⟨oa,ob,h1,h2,h3⟩:=fm (xy.2.2 b' hb' (j,true,ag) (by simp));have oL:(LL P n ops)[j]? =some ob:=h2;rw[oH]at oL;cases oL
    exact⟨oa,h1,h3⟩
   have hT: ∀t∈(bP P n ops true ops[j]).reads,VR c h w (Env.get e' t) (a.tmps.getD t undef):=by
    intro t ht
    refine hd'.T t (fun b' hb' hl' o' ho' mC=> ?_) fun p hp uw op Bl mC=>by
     obtain⟨bp,Hh,pE,hpa⟩:=vZ p hp uw op Bl;rcases List.mem_cons.1 Hh with h|h
     ·rw[<- pE,h]at hp
      have hp':listed.getD j false=true:=hp;rw[hp']at hl;cases hl
     ·obtain⟨oa,ob,h1,h2,hr⟩:=fm ((List.pairwise_cons.1 xy.2.1).1 bp h)
      have H8:(LL P n ops)[j]? =some oa:=h1;rw[oH]at H8;cases H8
      rw[pE,Bl]at h2;cases h2
      have:=(hr.ba t mC ht).2;rw[pE]at this;have h4:listed.getD j false=true:=hpa _ this;rw[h4]at hl;cases hl
    obtain⟨ob,cK,hr⟩:=hR b' hb';rw[ho']at cK;cases cK
    rw[uQ _ (hr.ab t mC ht)]at hl';cases hl'
   have eG:=hd'.cont;rw[jd _ _ _ _ _ _ _ _ _ _ _ (hF.un (j,true,ag) (by rw[hd'.split];simp))]at eG;rw[ey,oH]at eG;dsimp only at eG
   replace eG:=(jk eG).1
   have hdc: ∀(x:Value) (c':Cx) (h':Heap) (w':World),Ext c h w c' h' w'-> ∀q,(listed.setIfInBounds j true).getD q false=true->(∃ b∈done'++[(j,true,ag)],b.1=q)\/tj P n ops w0 pb c' h' w' (a.put ops[j].dst x) q:=fun x c' h' w' hx' q hq=>by
    rw[gJ]at hq;by_cases h:q=j
    ·exact .inl ⟨(j,true,ag),by simp,h.symm⟩
    ·rw[if_neg h]at hq
     by_cases hex: ∃b∈done',b.1=q
     ·obtain⟨b',hb',he⟩:=hex
      exact .inl ⟨b',by simp[hb'],he⟩
     ·have Fh:ep done' q:=fun b hb he=>hex ⟨b,hb,he⟩
      refine .inr (((hd'.dc q hq).resolve_left hex).mono hx' fun o t ho yh=> ?_);rw[hput,if_neg];intro he;obtain⟨bp,Hh,pE,hpa⟩:=vZ q hq Fh o ho;rcases List.mem_cons.1 Hh with h1|h1
      ·exact h (by rw[<- pE,h1])
      ·obtain⟨oa,ob,h2,h3,hr⟩:=fm ((List.pairwise_cons.1 xy.2.1).1 bp h1)
       have oL:(LL P n ops)[j]? =some oa:=h2;rw[oH]at oL;cases oL
       rw[pE,ho]at h3;cases h3
       rcases yh with yh|yh
       ·exact hr.dst t (by rw[eN];exact he) yh
       ·have:=hr.ab t (by rw[eN];exact he) yh
        rw[pE]at this;have h4:listed.getD j false=true:=hpa _ this;rw[h4]at hl;cases hl
   have H7: ∀p q,(listed.setIfInBounds j true).getD p false=true->(listed.setIfInBounds j true).getD q false=true->ep (done'++[(j,true,ag)]) p->ep (done'++[(j,true,ag)]) q->pb p=pb q->p=q:=by
    intro p q hp hq uw Fh he;have hpi:p≠j:=fun h=>uw (j,true,ag) (by simp) h.symm
    have hU:q≠j:=fun h=>Fh (j,true,ag) (by simp) h.symm
    rw[gJ,if_neg hpi]at hp;rw[gJ,if_neg hU]at hq;exact hd'.Gj p q hp hq (fun b hb=>uw b (by simp[hb])) (fun b hb=>Fh b (by simp[hb])) he
   have fin: ∀(v:SV) (x:Value) (e1:Env) (c':Cx) (h':Heap) (w':World),Nl e' e1->cF c' h' w'->Ext c h w c' h' w'->VR c' h' w' v x->lD P Γ (LL P n ops) r (oV e1 (bP P n ops true ops[j]).dst v) h' k kp->
     (∀ b'∈done',(listed.setIfInBounds j true).getD b'.1 false=false-> ∀o',(LL P n ops)[b'.1]? =some o'->lK P Γ o' (oV e1 (bP P n ops true ops[j]).dst v) h->lK P Γ o' (oV e1 (bP P n ops true ops[j]).dst v) h')->
     wpAny P .any ops Q fuel (listed.setIfInBounds j true) (a.put ops[j].dst x) w':=by
    intro v x e1 c' h' w' yg hr' hx' nX hc W7;have H9: ∀t,(bP P n ops true ops[j]).dst≠some t->Env.get (oV e1 (bP P n ops true ops[j]).dst v) t=Env.get e' t:=fun t ht=>by rw[(nA e1 _ v t).2 ht,<-yg]
    refine ih (done'++[(j,true,ag)]) r _ pb c' h' w' _ _ Nr qV ⟨by rw[hd'.split];simp,hr',hd'.ext.trans Ff hx',by rw[kA];exact hd'.size,by rw[put_defers];exact hd'.defers,hls,hc,hdc x c' h' w' hx',H7,fun b' hb' hs=> ?_,hclosed,fun t ht JR=> ?_,fun b' hb' hl' o' ho'=> ?_⟩
    ·rcases List.mem_append.1 hb' with h|h
     ·exact hmono _ (hd'.sd b' h hs)
     ·simp only[List.mem_singleton]at h;subst h
      rw[gJ,if_pos rfl]
    ·rw[hput]
     by_cases hdt:ops[j].dst=some t
     ·rw[if_pos hdt,(nA e1 _ v t).1 (by rw[eN];exact hdt)];exact nX
     ·rw[if_neg hdt,H9 t (by rw[eN];exact hdt)]
      refine(hd'.T t (fun b' hb' hl' o' ho'=>ht b' (by simp[hb']) ?_ o' ho') fun p hp uw=>JR p (hmono p hp) fun b' hb'=> ?_).mono hd'.rep hx'
      rotate_left
      ·rcases List.mem_append.1 hb' with h|h
       ·exact uw b' h
       ·simp only[List.mem_singleton]at h;subst h
        intro he;have he':j=p:=he;rw[<- he',hl]at hp;cases hp
      rw[gJ,if_neg (fun e=> ?_)]
      ·exact hl'
      ·obtain⟨ob,_,hr⟩:=hR b' hb'
       exact hr.ne e
    ·rcases List.mem_append.1 hb' with h|h
     ·obtain⟨xZ,hne⟩:=hun _ hl'
      obtain⟨ob,cK,hr⟩:=hR b' h;rw[ho']at cK;cases cK
      refine W7 b' h hl' o' ho' ((hd'.Pd b' h xZ o' ho').congr (fun t ht=>(H9 t fun mC=> ?_).symm) fun t ht=>(H9 t fun mC=>hr.dst t ht mC).symm);have:=(hr.ba t mC ht).2;rw[uQ _ this]at xZ;cases xZ
     ·simp only[List.mem_singleton]at h;subst h
      rw[gJ,if_pos rfl]at hl';cases hl'
   rcases lH eG with⟨hw,e1,yg,hp⟩|⟨hw,e1,yg,hp⟩
   ·rw[jl (fun t _=>(yg t).symm)]at hp
    refine qb gp (b:=true) (Array.getElem?_eq_getElem hlt) hE.good hd'.rep hT hd'.size hw (fun _=>hp) (fun _ v x h' c' w' hk hr' hx' nX=> ?_) (fun _ v x h' c' w' hk hr' hx' nX=>TQ v x h' c' a w' hk hr' (hd'.ext.trans Ff hx') hd'.size hd'.defers nX) (fun hf=>by cases hf);rw[gH]at hk;obtain⟨hc,hag⟩:=jm gp (fun q hq oi No=>hE.ag q hq oi No) hk;refine fin v x e1 c' h' w' yg hr' hx' nX hc fun b' hb' hl' o' ho' hold=> ?_
    obtain⟨xZ,hne⟩:=hun _ hl';obtain⟨ob,cK,hr⟩:=hR b' hb';rw[ho']at cK;cases cK
    have hns:b'.2.1=false:=by
     cases hs:b'.2.1 with
     |false=>rfl
     |true=>rw[hd'.sd b' hb' hs]at xZ;cases xZ
    rcases hr.rd hns rfl with h1|h1|h1
    ·rw[uQ _ h1]at xZ;cases xZ
    ·exact hold.heap h1
    ·obtain⟨v',q1,q2⟩:=hold
     rcases q2 with⟨q2,_⟩|q2
     ·obtain⟨WX,HZ,TO⟩:=kC (hF.LF b' (by rw[hd'.split];simp[hb']))
      rw[ho']at HZ;cases HZ
      exact hag _ h1 o' ho' (TO.cls hns) q2
     ·exact⟨v',q1,.inr q2⟩
   ·rw[gH]at hp
    refine qb gp (b:=false) (Array.getElem?_eq_getElem hlt) hE.good hd'.rep hT hd'.size hw (k:=fun _ _=>False) (kp:=fun _ _=>False) (fun hf=>by cases hf) (fun hf=>by cases hf) (fun hf=>by cases hf) (fun _=> ?_);exact fin (.bn []) undef e1 c h w yg hd'.rep .refl (.pure (.bn _ _ rfl fun i v x hv=>by simp at hv)) hp fun _ _ _ _ _ hold=>hold
theorem Dj{m:Nat}{h:Heap}{p v:SV}{K:Heap->Prop}(hp:vC m h p v K): ∃h',K h':=by
 unfold vC at hp;obtain⟨hu,hp⟩:=dI.1 hp
 replace hp:=av.1 hp
 obtain⟨_,hp⟩:=hp;obtain⟨nx,l⟩:=h;split at hp
 ·simp only[bC]at hp
  split at hp
  ·split at hp
   ·replace hp:=av.1 hp
    obtain⟨_,hp⟩:=hp;rw[ey]at hp;split at hp
    ·obtain⟨w1,hp,_,_⟩:=vM hp hu
     obtain⟨_,hp⟩:=iM.1 hp;rw[eW]at hp;exact⟨_,hp⟩
    ·exact hp.elim
   ·exact hp.elim
  ·exact hp.elim
 ·exact hp.elim
theorem Kc{o:pZ}(hc:o.cls<=1\/o.nZ=true){e:Env}{h:Heap}{K kp:SV->Heap->Prop}(hp:bR P Γ o e h K kp): ∃v h',K v h':=by
 rcases hc with hc|hc
 ·obtain⟨v,hv,_⟩:=vW hc hp
  exact⟨v,h,hv⟩
 ·cases o with
  |store m x v=>
   simp only[bR,aM]at hp;obtain⟨h',hk⟩:=Dj hp;exact⟨_,h',hk⟩
  |_=>cases hc
theorem tu{o:aJ}(hc:o.op.cls<=1\/o.op.nZ=true){e:Env}{h:Heap}{K:Env->Heap->Prop}(hp:eD P Γ o e h K): ∃e' h',K e' h':=by
 unfold eD at hp;rcases lH hp with⟨_,e1,_,hp⟩|⟨_,e1,_,hp⟩
 ·obtain⟨v,h',hk⟩:=Kc hc hp
  rw[gH]at hk;exact⟨_,_,hk⟩
 ·rw[gH]at hp
  exact⟨_,_,hp⟩
theorem yj{L:List aJ}: ∀ {T:List Nat},(∀ i∈T,∀o,L[i]? =some o->o.op.cls<=1\/o.op.nZ=true)-> ∀ {e:Env} {h:Heap} {K:Env->Heap->Prop},FR P Γ L T e h K-> ∃e' h',K e' h'
 | [],_,e,h,K,hp=>⟨e,h,hp⟩
 |i::r,hT,e,h,K,hp=>by
  unfold FR at hp;rw[ey]at hp;split at hp
  ·exact hp.elim
  ·rename_i o ho
   obtain⟨e',h',hp⟩:=tu (hT i (by simp) o ho) hp;exact yj (fun j hj=>hT j (by simp[hj])) hp
theorem v7{f:Nat->Prop->Prop}{p:Prop}: ∀ {l:List Nat},(∀ i∈l,∀q,f i q->q)->ug l f p->p
 | [],_,h=>h
 |i::r,hf,h=>v7 (fun j hj=>hf j (by simp[hj])) (hf i (by simp) _ h)
theorem yl{f:Nat->Prop->Prop}{p:Prop}: ∀ {l:List Nat},(∀ i∈l,∀q,f i q->q)->ug l f p-> ∀i∈l,∃q,f i q
 |i::r,hf,h,j,hj=>by
  rcases List.mem_cons.1 hj with rfl|hj
  ·exact⟨_,h⟩
  ·exact yl (fun j hj=>hf j (by simp[hj])) (hf i (by simp) _ h) j hj
theorem nB{i:Nat}: ∀ {l:List Nat} {j:Nat},j∈oG l i<->j∈l/\j≠i
 | [],j=>by simp[oG]
 |x::r,j=>by
  unfold oG;rcases bX x i with⟨h,h'⟩|⟨h,h'⟩<;>rw[h]
  ·subst h'
   simp only[cond_true,nB,List.mem_cons];constructor
   ·rintro⟨a,b⟩;exact⟨.inr a,b⟩
   ·rintro⟨a|a,b⟩
    ·exact absurd a b
    ·exact⟨a,b⟩
  ·simp only[cond_false,List.mem_cons,nB]
   constructor
   ·rintro(rfl|⟨a,b⟩)
    ·exact⟨.inl rfl,h'⟩
    ·exact⟨.inr a,b⟩
   ·rintro⟨rfl|a,b⟩
    ·exact .inl rfl
    ·exact .inr ⟨a,b⟩
theorem Bm: ∀ {l:List Nat} {i:Nat},mM l i=true->i∈l
 | [],i,h=>by cases h
 |x::r,i,h=>by
  unfold mM at h;rcases bX x i with⟨hb,h'⟩|⟨hb,h'⟩<;>rw[hb]at h
  ·simp[h']
  ·exact List.mem_cons_of_mem _ (Bm h)
theorem ym{rem:List Nat}: ∀ {pre:List Nat},(∀ k∈pre,k∉rem)->cz pre rem=true
 | [],_=>rfl
 |k::r,h=>by
  unfold cz
  have hk:mM rem k=false:=by
   cases hb:mM rem k with
   |false=>rfl
   |true=>exact absurd (Bm hb) (h k (by simp))
  rw[hk,ym fun j hj=>h j (by simp[hj])];rfl
theorem Bn{e':Env}: ∀ {e:Env},vE e' e-> ∀t,Env.get e t= .undef\/Env.get e t=Env.get e' t
 | [],_,t=> .inl rfl
 |(s,v)::r,h,t=>by
  have e:Env.get ((s,v)::r) t=bif Nat.beq s t then v else Env.get r t:=rfl;rw[e];cases hb:Nat.beq s t with
  |true=>
   have:=Nat.eq_of_beq_eq_true hb;subst this;exact .inr h.1.symm
  |false=>exact Bn h.2 t
theorem tv{L:List aJ}{l8:Env->Heap->Prop->Prop}(zw: ∀e h p,l8 e h p->p): ∀(m:Nat) {rem:List Nat},(∀ i∈rem,∀o,L[i]? =some o->o.op.cls<=1\/o.op.nZ=true)-> ∀ {e:Env} {h:Heap} {p:Prop},gT P Γ L l8 m rem e h p->p
 |0,[],_,e,h,p,hp=>zw e h p (show l8 e h p from hp)
 |0,x::r,_,e,h,p,hp=>(show False from hp).elim
 |m+1,[],_,e,h,p,hp=>zw e h p (show l8 e h p from hp)
 |m+1,x::r,hT,e,h,p,hp=>by
  rw[gG]at hp;refine v7 (fun i hi q hq=> ?_) hp;rw[ey]at hq;split at hq
  ·exact hq.elim
  ·rename_i o ho
   rcases zf hq with⟨_,hq⟩|⟨_,hq⟩
   ·obtain⟨e',h',hq⟩:=tu (hT i hi o ho) hq
    exact tv zw m (fun j hj=>hT j (nB.1 hj).1) hq
   ·exact hq
theorem Ke(gp:Γ.Ok P)(hF:uP (LL P n ops) ms ord TT)(Ff:cF c0 h0 w0){l8:Env->Heap->Prop->Prop}{C:Env->Heap->Prop}{p:Prop}(zw: ∀e h p,l8 e h p->C e h/\p)
  (hK: ∀e h c a w,C e h->cF c h w->Ext c0 h0 w0 c h w->ER c h w e a.tmps->a.tmps.size=n->a.defers=ds->Q .normal a w):
  ∀(fuel m:Nat) (rem:List Nat) (p:Prop) (listed:Array Bool) (e:Env) (h:Heap) (c:Cx) (a:Act) (w:World),Hg ops.size listed<=fuel->listed.size=ops.size->(∀ i∈rem,i∈TT)->(∀ i,i<ops.size->(listed.getD i false=false<->i∈rem))->
   gT P Γ (LL P n ops) l8 m rem e h p->cF c h w->Ext c0 h0 w0 c h w->ER c h w e a.tmps->a.tmps.size=n->a.defers=ds->wpAny P .any ops Q fuel listed a w:=by
 have fC: ∀rem:List Nat,(∀ i∈rem,i∈TT)-> ∀i∈rem,∀o,(LL P n ops)[i]? =some o->o.op.cls<=1\/o.op.nZ=true:=fun rem xA i hi o ho=>by
  obtain⟨o',ho',_,hc,_⟩:=hF.tail i (xA i hi);rw[ho]at ho';cases ho';exact hc
 have Q4: ∀i∈TT,i<ops.size:=fun i hi=>by
  obtain⟨o',ho',_⟩:=hF.tail i hi;rcases Nat.lt_or_ge i (LL P n ops).length with h|h
  ·rw[vY]at h;exact h
  ·rw[List.getElem?_eq_none h]at ho';cases ho'
 have xj: ∀(m:Nat) (rem:List Nat) (p:Prop) (listed:Array Bool) (e:Env) (h:Heap) (c:Cx) (a:Act) (w:World),(∀ i,i<ops.size->listed.getD i false=true)->(∀ i∈rem,i∈TT)->(∀ i,i<ops.size->(listed.getD i false=false<->i∈rem))->
   gT P Γ (LL P n ops) l8 m rem e h p->cF c h w->Ext c0 h0 w0 c h w->ER c h w e a.tmps->a.tmps.size=n->a.defers=ds->Q .normal a w:=by
  intro m rem p listed e h c a w hall JT xA hp hr hx he hn hds
  have J8:rem=[]:=by
   cases rem with
   |nil=>rfl
   |cons x r=>
    have h1:=Q4 x (JT x (by simp));have h2:=(xA x h1).2 (by simp);rw[hall x h1]at h2;cases h2
  subst J8;have hp:l8 e h p:=by cases m<;>exact hp
  exact hK e h c a w (zw e h p hp).1 hr hx he hn hds
 intro fuel
 induction fuel with
 |zero=>
  intro m rem p listed e h c a w hu hls JT xA hp hr hx he hn hds;have hall:=Bi (Nat.le_zero.1 hu);refine⟨List.eq_nil_iff_forall_not_mem.2 fun i hi=> ?_,xj m rem p listed e h c a w hall JT xA hp hr hx he hn hds⟩;obtain⟨hlt,hl,_⟩:=lN hls hi;rw[hall i hlt]at hl;cases hl
 |succ fuel ih=>
  intro m rem p listed e h c a w hu hls JT xA hp hr hx he hn hds;refine⟨fun TX=>xj m rem p listed e h c a w (fun i hi=>qW hF hls TX (i+1) i (Nat.lt_succ_self _) hi) JT xA hp hr hx he hn hds,fun i hi=> ?_⟩;obtain⟨hlt,hl,hpre⟩:=lN hls hi;have TY:i∈rem:=(xA i hlt).1 hl;have oH:=tn (P:=P) (n:=n) hlt;obtain⟨o,ho,hg,_,_⟩:=hF.tail i (JT i TY);rw[oH]at ho;cases ho
  obtain⟨eN,hop,Ns,QY,_⟩:=ny hg
  have hfree:cz (bP P n ops true ops[i]).pre rem=true:=ym fun k hk hkr=>by
   rw[QY]at hk;obtain⟨ed,QZ,xu⟩:=List.mem_filterMap.1 hk;cases hbd:kj ed
   ·rw[hbd]at xu;cases xu
   ·rw[hbd]at xu
    simp only[cond_true,Option.some.injEq]at xu;have h1:=hpre ed QZ hbd;rw[xu]at h1;have h2:=(xA k (Q4 k (JT k hkr))).2 hkr;rw[h1]at h2;cases h2
  cases rem with
  |nil=>cases TY
  |cons x0 r0=>
  cases m with
  |zero=>exact(show False from hp).elim
  |succ m=>
   rw[gG]at hp
   obtain⟨q,hq⟩:=yl (fun j hj q hq=>by
    rw[ey]at hq;split at hq
    ·exact hq.elim
    ·rename_i o ho
     rcases zf hq with⟨_,hq⟩|⟨_,hq⟩
     ·obtain⟨e',h',hq⟩:=tu (fC _ JT j hj o ho) hq
      exact tv (fun e h p hh=>(zw e h p hh).2) m (fun j' hj'=>fC _ JT j' (nB.1 hj').1) hq
     ·exact hq) hp i TY
   rw[ey,oH]at hq;dsimp only at hq;rw[hfree]at hq
   replace hq:eD P Γ (bP P n ops true ops[i]) e h fun e' h'=>gT P Γ (LL P n ops) l8 m (oG (x0::r0) i) e' h' q:=hq
   have hil:i<listed.size:=by rw[hls];exact hlt
   have qV:Hg ops.size (listed.setIfInBounds i true)<=fuel:=by
    have:=Fe hlt hil hl;omega
   have Q5: ∀j,j<ops.size->((listed.setIfInBounds i true).getD j false=false<->j∈oG (x0::r0) i):=fun j hj=>by
    rw[lM listed i j hil,nB];by_cases e:j=i
    ·rw[if_pos e];simp[e]
    ·rw[if_neg e,xA j hj];simp[e]
   have T0: ∀j∈oG (x0::r0) i,j∈TT:=fun j hj=>JT j (nB.1 hj).1
   have fin: ∀(v:SV) (x:Value) (e1:Env) (c':Cx) (h':Heap) (w':World),Nl e e1->cF c' h' w'->Ext c h w c' h' w'->VR c' h' w' v x->gT P Γ (LL P n ops) l8 m (oG (x0::r0) i) (oV e1 (bP P n ops true ops[i]).dst v) h' q->
     wpAny P .any ops Q fuel (listed.setIfInBounds i true) (a.put ops[i].dst x) w':=by
    intro v x e1 c' h' w' yg hr' hx' nX hc;have Gc:ER c' h' w' e1 a.tmps:=fun t=>by rw[<- yg];exact(he t).mono hr hx'
    refine ih m _ q _ _ h' c' _ w' qV (by simp[hls]) T0 Q5 hc hr' (hx.trans Ff hx') ?_ (by rw[kA];exact hn) (by rw[put_defers];exact hds);rw[eN];exact Gc.put (fun t ht=>by rw[hn];exact Ns t ht) nX
   unfold eD at hq;rcases lH hq with⟨hw,e1,yg,hq⟩|⟨hw,e1,yg,hq⟩
   ·rw[jl (fun t _=>(yg t).symm)]at hq
    refine qb gp (b:=true) (Array.getElem?_eq_getElem hlt) hg hr (fun t _=>he t) hn hw (fun _=>hq) (fun _ v x h' c' w' hk hr' hx' nX=> ?_) (fun _ v x h' c' w' hk=>hk.elim) (fun hf=>by cases hf);rw[gH]at hk;exact fin v x e1 c' h' w' yg hr' hx' nX hk
   ·rw[gH]at hq
    refine qb gp (b:=false) (Array.getElem?_eq_getElem hlt) hg hr (fun t _=>he t) hn hw (k:=fun _ _=>False) (kp:=fun _ _=>False) (fun hf=>by cases hf) (fun hf=>by cases hf) (fun hf=>by cases hf) (fun _=> ?_);exact fin (.bn []) undef e1 c h w yg hr .refl (.pure (.bn _ _ rfl fun i v x hv=>by simp at hv)) hq
theorem rV{L:List aJ}{t:List qs}{k:Env->Heap->Prop}{kp:SV->Env->Heap->Prop}: ∀(p:List qs),(∀ b∈p,mM b.2.2 b.1=false)-> ∀(e:Env) (h:Heap),lD P Γ L (p++t) e h k kp=lD P Γ L p e h (fun e h=>lD P Γ L t e h k kp) kp
 | [],_,e,h=>rfl
 |(i,b,ag)::r,hp,e,h=>by
  have ih:=rV (L:=L) (t:=t) (k:=k) (kp:=kp) r (fun b hb=>hp b (by simp[hb]));have hu:=hp (i,b,ag) (by simp);rw[List.cons_append,jd _ _ _ _ _ _ _ _ _ _ _ hu,jd _ _ _ _ _ _ _ _ _ _ _ hu];simp only[ih]
theorem we(gp:Γ.Ok P){id:Nat}(hm:P.follows .mixedOrders=true)(hok:Fb (LL P n ops) ord=true){c:Cx}{h:Heap}{w:World}{e:Env}{a:Act}(hp:lD P Γ (LL P n ops) ord e h k kp)(hr:cF c h w)(he:ER c h w e a.tmps)(hn:a.tmps.size=n)
  (hK: ∀e' h' c' a' w',k e' h'->cF c' h' w'->Ext c h w c' h' w'->ER c' h' w' e' a'.tmps->a'.tmps.size=n->a'.defers=a.defers->Q .normal a' w')
  (TQ: ∀v x h' c' a' w',kp v [] h'->cF c' h' w'->Ext c h w c' h' w'->a'.tmps.size=n->a'.defers=a.defers->VR c' h' w' v x->Q (.panic [{v:=x,recovered:=false}]) a' w'):
  (Code.region id ops true).wp P Q a w:=by
 refine wp_region_any hm ?_;have hx:Ext c h w c h {w with drawn:=w.drawn+1}:=⟨rfl,rfl,rfl,Nat.le_refl _,fun _ _ _=>rfl,fun _ _=>rfl,fun _ h=>h,fun _ h=> .inl h,Nat.le_refl _,fun _ o' _ h=>⟨o',h,Nat.le_refl _,rfl,fun _=>rfl⟩,fun _ o' h=> .inr ⟨o',h,rfl⟩⟩;have hr':cF c h {w with drawn:=w.drawn+1}:=⟨hr.lt,fun i o ho=>(hr.obj i o ho).mono hr hx rfl,hr.inj,hr.apart,hr.im,hr.oP hx⟩
 have hfalse: ∀i,(Array.replicate ops.size false).getD i false=false:=fun i=>by
  rw[Array.getD_eq_getD_getElem?,Array.getElem?_replicate];split<;>rfl
 have hF:=Dg hok;obtain⟨T1,hun,CW⟩:=th ord;rw[T1,rV _ hun]at hp;refine QX gp (c0:=c) (h0:=h) (w0:=w) (ds:=a.defers) hF (fun fuel listed e' h' c' a' w' hu hls hall JS hk hr' hx he' hn' hd'=> ?_) TQ hr ops.size [] (fW ord).1 _ (fun _=>0) c h _ e a (fun i _=>hfalse i) ?_ ⟨rfl,hr',hx,hn,rfl,by simp,hp,fun i hi=> ?_,fun i j hi=> ?_,fun b hb=>(by cases hb),fun i hi=> ?_,fun t _ _=>(he t).mono hr hx,fun b hb=>(by cases hb)⟩
 ·rcases CW with CW|⟨b,r,CW,hmk⟩
  ·rw[CW]at hk
   have LK: ∀i,i<ops.size->listed.getD i false=true:=fun i hi=>hall i hi (by rw[CW];simp)
   have hq:Q .normal a' w':=hK e' h' c' a' w' hk hr' hx he' hn' hd';cases fuel with
   |zero=>
    refine⟨List.eq_nil_iff_forall_not_mem.2 fun i hi=> ?_,hq⟩;obtain⟨hlt,hl,_⟩:=lN hls hi;rw[LK i hlt]at hl;cases hl
   |succ fuel=>
    refine⟨fun _=>hq,fun i hi=> ?_⟩;obtain⟨hlt,hl,_⟩:=lN hls hi;rw[LK i hlt]at hl;cases hl
  ·obtain⟨j,bb,ag⟩:=b
   rw[CW,CK _ _ _ _ _ _ _ _ _ _ _ hmk]at hk;unfold vF at hk;have W8:(fW ord).2.map (fun y=>y.1)=j::r.map fun y=>y.1:=by rw[CW];rfl
   rw[<- W8]at hk
   obtain⟨e1,h1,hk⟩:=yj (fun i hi o ho=>by
    obtain⟨o',ho',_,hc,_⟩:=hF.tail i hi;rw[ho]at ho';cases ho';exact hc) hk
   have zw: ∀(e':Env) (h':Heap) (p:Prop),Γ.fin (Ls e1 h1 e' h') (vE e' e1/\h1=h') p->(Ls e1 h1 e' h'=true\/vE e' e1/\h1=h')/\p:=fun e' h' p hh=>gp.fin _ _ _ hh
   have hkk:k e1 h1:=tv (fun e h p hh=>(zw e h p hh).2) _ (fun i hi o ho=>by
    obtain⟨o',ho',_,hc,_⟩:=hF.tail i hi;rw[ho]at ho';cases ho';exact hc) hk
   refine Ke gp hF hr (ds:=a.defers) (p:=k e1 h1) zw (fun e2 h2 c2 a2 w2 hst iO hx2 ku hn2 mc=> ?_) fuel _ _ _ listed e' h' c' a' w' hu hls (fun _ h=>h) (fun i hi=>⟨fun hl=> ?_,fun hT=>JS i hT⟩) hk hr' hx he' hn' hd'
   ·rcases hst with hst|⟨W9,rfl⟩
    rotate_left
    ·refine hK e1 h1 c2 a2 w2 hkk iO hx2 (fun t=> ?_) hn2 mc
     rcases Bn W9 t with hg|hg
     ·rw[hg];exact .undef
     ·rw[hg];exact ku t
    unfold Ls at hst;simp only[Bool.and_eq_true]at hst;obtain⟨h3,h4,h5⟩:=hst;have hs:S2 h1 h2:=⟨(Nat.eq_of_beq_eq_true h4).symm,fun i o ho=>HS h5 i o ho⟩;refine hK e1 h1 c2 a2 w2 hkk (iO.hle hs) (hx2.trans hr (Ext.hle hs)) (fun t=> ?_) hn2 mc;rcases Bh h3 t with hg|hg
    ·rw[hg];exact .undef
    ·exact(hg.vr (ku t)).hle hs
   ·by_cases hT:i∈(fW ord).2.map fun y=>y.1
    ·exact hT
    ·rw[hall i hi hT]at hl;cases hl
 ·unfold Hg
  exact Nat.le_trans (List.length_filter_le _ _) (by simp)
 ·rw[hfalse]at hi;cases hi
 ·rw[hfalse]at hi;cases hi
 ·rw[hfalse]at hi;cases hi
end
end
end Ab
