/- Parts of the proof of PCatalogBack, one behind the other, with short names. -/
import Derived.Test.YtegmnocpkgpgeaaGreatDoorZ2
import Derived.Laws.Cells
import Derived.Laws.CopyRow
import Derived.Laws.World
import Derived.WalkKit
set_option linter.unusedVariables false
set_option linter.unusedSimpArgs false
namespace Ab
open Go
section
theorem bO(s t:Nat):(Nat.beq s t=true/\s=t)\/(Nat.beq s t=false/\s≠t):=by
 cases h:Nat.beq s t
 ·exact .inr ⟨rfl,fun e=>by subst e;simp at h⟩
 ·exact .inl ⟨rfl,Nat.eq_of_beq_eq_true h⟩
theorem iT{α:Sort _}(t:Nat)(k:SV->α): ∀e:Env,Env.u5 e t k=k (Env.get e t)
 | []=>rfl
 |(s,v)::r=>by
  unfold Env.u5 Env.get;rcases bO s t with⟨h,_⟩|⟨h,_⟩<;>rw[h]
  ·rfl
  ·exact iT t k r
theorem ql{α:Sort _}(t:Nat)(v:SV): ∀(e:Env) (k:Env->α),Env.BH e t v k=k (Env.put e t v)
 | [],k=>rfl
 |(s,w)::r,k=>by
  unfold Env.BH Env.put;rcases bO s t with⟨h,_⟩|⟨h,_⟩<;>rw[h]
  ·rfl
  ·exact ql t v r _
theorem v7{α:Sort _}(t:Nat): ∀(e:Env) (k:Env->α),Env.BI e t k=k (Env.drop e t)
 | [],k=>rfl
 |(s,w)::r,k=>by
  unfold Env.BI Env.drop;rcases bO s t with⟨h,_⟩|⟨h,_⟩<;>rw[h]
  ·exact v7 t r _
  ·exact v7 t r _
def Env.oS:List Nat->Env->Env
 | [],e=>e
 |t::ts,e=>Env.oS ts (Env.drop e t)
theorem nF{α:Sort _}: ∀(ts:List Nat) (e:Env) (k:Env->α),Env.rD ts e k=k (Env.oS ts e)
 | [],e,k=>rfl
 |t::ts,e,k=>by unfold Env.rD Env.oS;rw[v7];exact nF ts _ k
theorem qm(e:Env)(t:Nat)(v:SV)(u:Nat):Env.get (Env.put e t v) u=if u=t then v else Env.get e u:=by
 induction e with
 |nil=>
  unfold Env.put Env.get Env.get;rcases bO t u with⟨h,h'⟩|⟨h,h'⟩<;>rw[h]
  ·rw[if_pos h'.symm];rfl
  ·rw[if_neg (fun e=>h' e.symm)];rfl
 |cons x r ih=>
  obtain⟨s,w⟩:=x;unfold Env.put;rcases bO s t with⟨h,h'⟩|⟨h,h'⟩<;>rw[h]
  ·subst h'
   simp only[cond_true];unfold Env.get;rcases bO s u with⟨h2,pn⟩|⟨h2,pn⟩<;>rw[h2]
   ·rw[if_pos pn.symm];rfl
   ·rw[if_neg (fun e=>pn e.symm)];rfl
  ·simp only[cond_false]
   unfold Env.get;rcases bO s u with⟨h2,pn⟩|⟨h2,pn⟩<;>rw[h2]
   ·subst pn;rw[if_neg h'];rfl
   ·exact ih
theorem BM{p:Nat->Bool}: ∀(e:Env) (t:Nat),Env.get (Env.keep p e) t=if p t=true then .undef else Env.get e t
 | [],t=>by unfold Env.keep Env.get;split<;>rfl
 |(s,v)::r,t=>by
  have ih:=BM (p:=p) r t;unfold Env.keep;cases hs:p s
  ·simp only[cond_false]
   unfold Env.get;cases hb:Nat.beq s t
   ·simp only[cond_false];rw[ih]
   ·simp only[cond_true]
    rw[<- Nat.eq_of_beq_eq_true hb,hs,if_neg (by decide)]
  ·simp only[cond_true]
   rw[ih];by_cases ht:p t=true
   ·rw[if_pos ht,if_pos ht]
   ·rw[if_neg ht,if_neg ht]
    conv=>rhs;unfold Env.get
    cases hb:Nat.beq s t
    ·rfl
    ·rw[Nat.eq_of_beq_eq_true hb]at hs;exact absurd hs ht
theorem F4{L:List aA}{t:Nat}(h: ¬BG L t=true): ∀ {o:aA} {i:Nat},L[i]? =some o->o.dst≠some t:=by
 induction L with
 |nil=>intro o i ho;simp at ho
 |cons a r ih=>
  intro o i ho;unfold BG at h;simp only[Bool.or_eq_true,not_or]at h;cases i with
  |zero=>
   simp at ho;subst ho
   intro hd;rw[hd]at h;exact h.1 (Nat.beq_refl t)
  |succ i=>exact ih h.2 (by simpa using ho)
theorem JS(e:Env)(t u:Nat):Env.get (Env.drop e t) u= .undef\/Env.get (Env.drop e t) u=Env.get e u:=by
 induction e with
 |nil=>exact .inl rfl
 |cons x r ih=>
  obtain⟨s,w⟩:=x;unfold Env.drop;rcases bO s t with⟨h,h'⟩|⟨h,h'⟩<;>rw[h]
  ·subst h'
   simp only[cond_true]
   have key:u=s->Env.get (Env.drop r s) u= .undef:=by
    rintro rfl;clear ih
    induction r with
    |nil=>rfl
    |cons y r ih=>
     obtain⟨s',w'⟩:=y;unfold Env.drop;rcases bO s' u with⟨h,h'⟩|⟨h,h'⟩<;>rw[h]
     ·exact ih
     ·simp only[cond_false];unfold Env.get;rw[h];exact ih
   by_cases hu:u=s
   ·exact .inl (key hu)
   ·have:Env.get ((s,w)::r) u=Env.get r u:=by
     rcases bO s u with⟨h2,pn⟩|⟨h2,pn⟩
     ·exact absurd pn.symm hu
     ·conv=>lhs;unfold Env.get
      rw[h2];rfl
    rw[this];exact ih
  ·simp only[cond_false]
   rcases bO s u with⟨h2,pn⟩|⟨h2,pn⟩
   ·right;unfold Env.get;rw[h2];rfl
   ·have e1:Env.get ((s,w)::Env.drop r t) u=Env.get (Env.drop r t) u:=by conv=>lhs;unfold Env.get
                                                                         rw[h2];rfl
    have e2:Env.get ((s,w)::r) u=Env.get r u:=by conv=>lhs;unfold Env.get
                                                 rw[h2];rfl
    rw[e1,e2];exact ih
theorem HJ(ts:List Nat): ∀(e:Env) (u:Nat),Env.get (Env.oS ts e) u= .undef\/Env.get (Env.oS ts e) u=Env.get e u:=by
 induction ts with
 |nil=>exact fun e u=> .inr rfl
 |cons t ts ih=>
  intro e u;unfold Env.oS;rcases ih (Env.drop e t) u with h|h
  ·exact .inl h
  ·rw[h];exact JS e t u
theorem bg{α:Sort _}(i:Nat)(k:ai->α)(d:α): ∀l:List (Nat×ai),eC l i k d=match ak l i with|some o=>k o|none=>d
 | []=>rfl
 |(s,o)::r=>by
  unfold eC ak;rcases bO s i with⟨h,h'⟩|⟨h,h'⟩<;>rw[h]
  ·rw[if_pos h']
  ·rw[if_neg h'];exact bg i k d r
def bt:List (Nat×ai)->Nat->ai->List (Nat×ai)
 | [],_,_=>[]
 |(s,o)::r,i,o'=>if s=i then(s,o')::r else(s,o)::bt r i o'
theorem cL{α:Sort _}(i:Nat)(o':ai): ∀(l:List (Nat×ai)) (k:List (Nat×ai)->α),mM l i o' k=k (bt l i o')
 | [],k=>rfl
 |(s,o)::r,k=>by
  unfold mM bt;rcases bO s i with⟨h,h'⟩|⟨h,h'⟩<;>rw[h]
  ·rw[if_pos h']
  ·rw[if_neg h'];exact cL i o' r _
theorem ef(l:List (Nat×ai))(i:Nat)(o':ai)(j:Nat):ak (bt l i o') j=if j=i then(ak l i).map (fun _=>o')else ak l j:=by
 induction l with
 |nil=>unfold bt ak;split<;>rfl
 |cons x r ih=>
  obtain⟨s,o⟩:=x;unfold bt;by_cases h:s=i
  ·subst h
   rw[if_pos rfl];unfold ak;by_cases h2:s=j
   ·subst h2;simp
   ·rw[if_neg h2,if_neg (fun e=>h2 e.symm),if_neg h2]
  ·rw[if_neg h]
   unfold ak;by_cases h2:s=j
   ·subst h2;rw[if_pos rfl,if_neg h,if_pos rfl]
   ·rw[if_neg h2,if_neg h,if_neg h2];exact ih
theorem ah{b:Bool}{p:Prop}:cY b p<->b=true/\p:=by
 cases b
 ·exact⟨fun h=>h.elim,fun h=>by cases h.1⟩
 ·exact⟨fun h=>⟨rfl,h⟩,fun h=>h.2⟩
theorem ZO{b:Bool}{p:Prop}(h:b=true)(hp:p): @Bool.rec (fun _=>Prop) False p b:=ah.2 ⟨h,hp⟩
theorem br{b:Bool}{p q:Prop}(h1:b=true->p)(h0:b=false->q): @Bool.rec (fun _=>Prop) q p b:=by
 cases b
 ·exact h0 rfl
 ·exact h1 rfl
theorem Bw{b:Bool}{p q:Prop}(h: @Bool.rec (fun _=>Prop) q p b):(b=true/\p)\/(b=false/\q):=by
 cases b
 ·exact .inr ⟨rfl,h⟩
 ·exact .inl ⟨rfl,h⟩
theorem dx{v:SV}{k:List SV->Prop}:v.gE k<->v≠ .undef/\k v.cells:=by
 cases v<;>simp[SV.gE,SV.cells]
def aY.ev(e:Env):aY->SV
 | .tmp t=>Env.get e t
 | .const v=>v
theorem aE{α:Sort _}(e:Env)(x:aY)(k:SV->α):x.fe e k=k (x.ev e):=by
 cases x
 ·exact iT _ _ _
 ·rfl
theorem kZ{α:Sort _}(e:Env): ∀(l:List aY) (k:List SV->α),Ao e l k=k (l.map (aY.ev e))
 | [],k=>rfl
 |x::r,k=>by
  unfold Ao;rw[aE,kZ e r];rfl
def ER(c:Cx)(h:Heap)(w:World)(e:Env)(tmps:Array Value):Prop:= ∀t,VR c h w (Env.get e t) (tmps.getD t undef)
theorem ei{Im:Nat->Prop}{w:World}: ∀(n:Nat) (v:Value),VP Im w (bw n v) v
 |0,v=> .undef v
 |n+1,v=>by
  unfold bw;split
  ·exact .bool _
  ·exact .int _ _
  ·rename_i s
   have:(⟨s.data.toList.toArray⟩:ByteArray)=s:=by cases s;rfl
   conv=>rhs;rw[<- this]
   exact .str _
  ·exact .eM
  ·exact .af
  ·exact .jo
  ·exact .dF
  ·exact .gb
  ·exact .iface _ _ _ (ei n _)
  ·refine .agg _ _ (by simp) fun i v x hv hx=> ?_
   simp only[List.getElem?_map,Option.map_eq_some_iff,Array.getElem?_toList]at hv;obtain⟨y,hy,rfl⟩:=hv;rw[hx]at hy;cases hy
   exact ei n _
  ·refine .bn _ _ (by simp) fun i v x hv hx=> ?_
   simp only[List.getElem?_map,Option.map_eq_some_iff,Array.getElem?_toList]at hv;obtain⟨y,hy,rfl⟩:=hv;rw[hx]at hy;cases hy
   exact ei n _
  ·exact .undef _
section
variable {P:Program} {Γ:bR} {c:Cx} {h:Heap} {w:World} {e:Env} {a:Act}
theorem ER.ev(he:ER c h w e a.tmps)(x:Operand):VR c h w ((aD x).ev e) (a.eval x):=by
 cases x with
 |tmp t=>exact he t
 |const v=>exact .pure (ei 4 v)
 |global g=>exact .pure (.dj g)
 |func f=>exact .pure (.func _ _ _ _ _ rfl rfl (fun i v x hv=>by simp at hv) (fun i v x hv=>by simp at hv))
def pJ(e:Env)(d:Option Nat)(v:SV):Env:=match d with
 |some t=>Env.put e t v
 |none=>e
theorem ER.put(he:ER c h w e a.tmps){d:Option Nat}{v:SV}{x:Value}(hd: ∀t,d=some t->t<a.tmps.size)(hv:VR c h w v x):
  ER c h w (pJ e d v) (a.put d x).tmps:=by
 cases d with
 |none=>exact he
 |some t=>
  intro u;have ht:=hd t rfl;simp only[Act.put,pJ,qm];by_cases hu:u=t
  ·subst hu
   rw[if_pos rfl];simpa[Array.getD_eq_getD_getElem?,ht]using hv
  ·rw[if_neg hu]
   have:=he u;simpa[Array.getD_eq_getD_getElem?,Array.getElem?_setIfInBounds,Ne.symm hu]using this
theorem ER.mono(hr:bT c h w){c':Cx}{h':Heap}{w':World}{tmps:Array Value}(he:ER c h w e tmps)(hx:Ext c h w c' h' w'):ER c' h' w' e tmps:=fun t=>(he t).mono hr hx
theorem ER.oS{tmps:Array Value}(he:ER c h w e tmps)(ts:List Nat):ER c h w (Env.oS ts e) tmps:=fun t=>by
 rcases HJ ts e t with h|h
 ·rw[h];exact .undef
 ·rw[h];exact he t
theorem gZ(e:Env)(d:Option Nat)(v:SV)(k:Env->Prop):nE e d v k=k (pJ e d v):=by
 cases d
 ·rfl
 ·exact ql _ _ _ _
theorem add_eq(b o n:Nat):(⟨b,o,none⟩:Addr).add n=⟨b,o+n,none⟩:=by unfold Addr.add;split<;>simp_all
theorem cM{α:Type _}: ∀(l:List α) (i:Nat),fm l i=l[i]?
 | [],i=>by simp[fm]
 |x::r,0=>by simp[fm]
 |x::r,i+1=>by simpa[fm]using cM r i
theorem dQ: ∀ {l:List SV} {n:Nat} {k:List SV->Prop},pF l n k<->n<=l.length/\k (l.drop n)
 |l,0,k=>by simp[pF]
 | [],n+1,k=>by simp[pF]
 |x::r,n+1,k=>by simp[pF,dQ]
theorem cU: ∀ {l:List SV} {n:Nat} {k:List SV->Prop},takeN l n k<->n<=l.length/\k (l.take n)
 |l,0,k=>by cases l<;>simp[takeN]
 | [],n+1,k=>by simp[takeN]
 |x::r,n+1,k=>by simp[takeN,cU]
theorem qn(hr:bT c h w){p:SV}{x:Value}(hx:VR c h w p x){k:List SV->Nat->Prop}(hp:nB h p k):
  ∃cs sub b base C ty fz,k cs sub/\x= .pointer (some ⟨b,base+sub,none⟩)/\w.heap[b]? =some (.cells C ty fz)/\base+cs.length<=C.size/\
   ∀(j:Nat) (v:SV) (y:Value),cs[j]? =some v->C[base+j]? =some y->VR c h w v y:=by
 unfold nB at hp;split at hp
 ·rename_i v sub
  obtain⟨b,o,C,ty,fz,rfl,hb,hw,hn,hc⟩:=hx.vt;obtain⟨_,hk⟩:=dx.1 hp;exact⟨_,_,b,o,C,ty,fz,hk,rfl,hw,hn,fun j v y hv hy=> .pure (hc j v y hv hy)⟩
 ·rename_i g
  split at hp
  ·rename_i v hv
   obtain⟨_,hk⟩:=dx.1 hp;obtain⟨_,C,ty,fz,hw,hn,hc⟩:=hr.dj.1 g v hv;exact⟨_,_,g,0,C,ty,fz,hk,hx.nk,hw,by omega,fun j u y hu hy=> .pure (hc j u y hu (by rw[Nat.zero_add]at hy;exact hy))⟩
  ·exact hp.elim
 ·rename_i i g idx sub
  obtain⟨n,l⟩:=h;simp only[bg]at hp;split at hp
  ·rename_i o ho
   split at hp
   ·rename_i g' sz elems fS
    replace hp:=ah.1 hp
    obtain⟨hg,hp⟩:=hp;have hg':=Nat.eq_of_beq_eq_true hg;clear hg;subst hg';split at hp
    ·rename_i v hv
     obtain⟨hu,hk⟩:=dx.1 hp;have MQ:=hx.eK (o:= .vec g' sz elems fS) ho rfl;have jn:=hr.obj i _ ho;cases jn with
     |vec g sz elems fS C ty fz hw hle heq hty hc hf hcell=>
      have Pa:elems[idx]? =some v:=by
       rw[<- cM];exact hv
      have hlt:idx<elems.length:=by
       rcases Nat.lt_or_ge idx elems.length with h|h
       ·exact h
       ·rw[List.getElem?_eq_none h]at Pa;cases Pa
      have hlen:v.cells.length=sz:=hc v (List.mem_of_getElem? Pa);refine⟨_,_,_,idx*sz,C,ty,fz,hk,MQ,hw,?_,fun j u y hu hy=>hcell idx j v u y Pa hu hy⟩;have:(idx+1)*sz<=elems.length*sz:=Nat.mul_le_mul_right _ hlt;rw[hlen];have e1:(idx+1)*sz=idx*sz+sz:=by rw[Nat.succ_mul]
      omega
    ·exact hp.elim
   ·exact hp.elim
  ·exact hp.elim
 ·exact hp.elim
theorem hO{t:TypeId}{b:Bool}(hb:kO P t=some b):(isAgg t).run P w= .ok b w:=by
 unfold kO at hb;unfold isAgg;split at hb<;>rename_i hu<;>cases hb<;>simp[run_underlying hu]
theorem dy{t:TypeId}{i:TypeInfo}(hi:P.info? t=some i):(Go.sizeOf t).run P w= .ok i.size w:=by simp[Go.sizeOf,typeInfo,hi]
theorem iU{t:TypeId}{i:TypeInfo}{z:Value}(hi:P.info? t=some i)(hz:i.zero=some z):(zeroValue t).run P w= .ok z w:=by simp[zeroValue,typeInfo,hi,hz]
def dW(P:Program)(c:Cx)(h:Heap)(w:World)(a:Act)(o:Oper)(k:SV->Heap->Prop):Prop:=
 ∃v x,k v h/\(execOp a.eval o).run P w= .ok (.value x) w/\VR c h w v x
theorem HK(hr:bT c h w)(he:ER c h w e a.tmps){o:Oper}{t:TypeId}{x:Operand}(ho:o.op= .load t x){k kp:SV->Heap->Prop}(hp:bF P Γ (mb P o.op) e h k kp):dW P c h w a o k:=by
 simp only[ho,mb]at hp
 have hrun: ∀b off y,a.eval x= .pointer (some ⟨b,off,none⟩)->(loadVar t ⟨b,off,none⟩).run P w= .ok y w->(execOp a.eval o).run P w= .ok (.value y) w:=by
  intro b off y hx hy;simp[execOp,ho,hx,Instr.loadAt,Instr.sureAddr,hy]
 split at hp
 ·rename_i i hag hi
  simp only[bF,aE]at hp;obtain⟨cs,sub,b,base,C,ty,fz,hk,hx,hw,hle,hc⟩:=qn hr (he.ev x) hp;obtain⟨h1,hk⟩:=dQ.1 hk;obtain⟨h2,hk⟩:=cU.1 hk;simp only[List.length_drop]at h2
  let l:=(C.toList.drop (base+sub)).take i.size
  have hl:l.length=i.size:=by simp[l];omega
  refine⟨_,.agg l.toArray,hk,hrun _ _ _ hx ?_,.agg _ _ (by simp[l];omega) fun j v y hv hy=> ?_⟩
  ·have:=run_loadCells_list (P:=P) w ⟨b,base+sub,none⟩ l (fun j v hv=>by
    rw[add_eq];simp only[World.cell?,hw,Option.isSome_none,if_false];simp only[l,List.getElem?_take,List.getElem?_drop]at hv;split at hv
    ·simpa using hv
    ·cases hv)
   rw[hl]at this;simp[loadVar,hO hag,dy hi,this]
  ·simp only[List.getElem?_take,List.getElem?_drop]at hv
   simp only[l,List.getElem?_toArray,List.getElem?_take,List.getElem?_drop]at hy;split at hv
   ·rw[if_pos ‹_›]at hy
    exact hc (sub+j) v y hv (by simpa[Nat.add_assoc]using hy)
   ·cases hv
 ·rename_i hag
  simp only[bF,aE]at hp;obtain⟨cs,sub,b,base,C,ty,fz,hk,hx,hw,hle,hc⟩:=qn hr (he.ev x) hp;rw[cM]at hk;split at hk
  ·rename_i v hv
   have hlt:sub<cs.length:=by
    rcases Nat.lt_or_ge sub cs.length with h|h
    ·exact h
    ·rw[List.getElem?_eq_none h]at hv;cases hv
   have hy:C[base+sub]? =some C[base+sub]:=Array.getElem?_eq_getElem (by omega);refine⟨v,C[base+sub],hk,hrun _ _ _ hx ?_,hc sub v _ hv hy⟩;simp[loadVar,hO hag,World.cell?,hw,hy]
  ·exact hk.elim
 ·exact hp.elim
end
end
end Ab
