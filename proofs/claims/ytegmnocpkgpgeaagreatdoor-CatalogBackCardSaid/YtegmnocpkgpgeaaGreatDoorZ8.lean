/- Parts of the proof of PCatalogBack, one behind the other, with short names. -/
import Derived.Test.YtegmnocpkgpgeaaGreatDoorZ7
set_option linter.unusedVariables false
set_option linter.unusedSimpArgs false
namespace Ab
open Go
section
section
variable {P:Program} {Γ:bR} {c:Cx} {h:Heap} {w:World} {e:Env} {a:Act} {o:Oper} {k kp:SV->Heap->Prop}
theorem ko:Ext c h w c h w.drew:=
 ⟨rfl,rfl,rfl,Nat.le_refl _,fun _ _ _=>rfl,fun _ _=>rfl,fun _ h=>h,fun _ h=> .inl h,Nat.le_refl _,fun _ o' _ h=>⟨o',h,Nat.le_refl _,rfl,fun _=>rfl⟩,fun _ o' h=> .inr ⟨o',h,rfl⟩⟩
theorem nH(hr:bT c h w):bT c h w.drew:=
 ⟨hr.lt,fun i o ho=>(hr.obj i o ho).mono hr ko rfl,hr.inj,hr.apart,hr.im,hr.nj ko⟩
theorem BX{n:Nat}{l:List (Nat×ai)}{i g g2 sz:Nat}{elems elems':List SV}{sk yA:Sk}{w':World}(ho:ak l i=some (.vec g sz elems sk))(hg:g<=g2)
  (e1:w'.os=w.os)(e2:w'.tape=w.tape)(e3:w'.output=w.output)(e4:w'.heap.size=w.heap.size)(e5: ∀b',b'≠c.β i->w'.heap[b']? =w.heap[b']?)(e6:w'.shape? (c.β i)=w.shape? (c.β i)):
  Ext c ⟨n,l⟩ w c ⟨n,bt l i (.vec g2 sz elems' yA)⟩ w' where
 os:=e1
 tape:=e2
 output:=e3
 size:=by omega
 frame b hb hn:=e5 b (fun e=>hn i _ ho e.symm)
 shape b hb:=by
  by_cases h:b=c.β i
  ·rw[h];exact e6
  ·simp only[World.shape?,e5 b h]
 im _ hb:=hb
 im' _ hb:= .inl hb
 cI:=Nat.le_refl _
 old j o' hj ho':=by
  simp only[Heap.obj,ef]at ho';by_cases h:j=i
  ·subst h
   rw[if_pos rfl,ho]at ho';cases ho'
   exact⟨_,ho,hg,rfl,fun _=>rfl⟩
  ·rw[if_neg h]at ho'
   exact⟨o',ho',Nat.le_refl _,rfl,fun _=>rfl⟩
 new j o' ho':=by
  simp only[Heap.obj,ef]at ho';by_cases h:j=i
  ·subst h;exact .inr ⟨_,ho,rfl⟩
  ·rw[if_neg h]at ho';exact .inr ⟨o',ho',rfl⟩
theorem BY{n:Nat}{l:List (Nat×ai)}{i g g2 sz:Nat}{elems elems':List SV}{sk yA:Sk}{w':World}{C':Array Value}{ty:TypeId}{fz:Nat×Nat}(hr:bT c ⟨n,l⟩ w)(ho:ak l i=some (.vec g sz elems sk))
  (hx:Ext c ⟨n,l⟩ w c ⟨n,bt l i (.vec g2 sz elems' yA)⟩ w')(e4:w'.heap.size=w.heap.size)(e5: ∀b',b'≠c.β i->w'.heap[b']? =w.heap[b']?)(e6:w'.heap[c.β i]? =some (.cells C' ty fz))
  (hle:elems'.length*sz<=C'.size)(heq:yA.fS=false->elems'.length*sz=C'.size)(hty: ∀t,yA.ty=some t->t=ty)(hc: ∀v∈elems',v.cells.length=sz)(hf: ∀k,k<C'.size-> ¬(fz.1<=k/\k<fz.2))
  (hcell: ∀(p j:Nat) (e v:SV) (x:Value),elems'[p]? =some e->e.cells[j]? =some v->C'[p*sz+j]? =some x->VR c ⟨n,l⟩ w v x):bT c ⟨n,bt l i (.vec g2 sz elems' yA)⟩ w':=by
 have key: ∀j o',(Heap.mk n (bt l i (.vec g2 sz elems' yA))).obj j=some o'->(j=i/\o'= .vec g2 sz elems' yA)\/(j≠i/\ak l j=some o'):=by
  intro j o' ho';simp only[Heap.obj,ef]at ho';by_cases h:j=i
  ·rw[if_pos h,ho]at ho';cases ho';exact .inl ⟨h,rfl⟩
  ·rw[if_neg h]at ho';exact .inr ⟨h,ho'⟩
 have si: ∀j o',(Heap.mk n (bt l i (.vec g2 sz elems' yA))).obj j=some o'-> ∃vq,ak l j=some vq:=by
  intro j o' ho';rcases key j o' ho' with⟨rfl,_⟩|⟨_,h⟩
  ·exact⟨_,ho⟩
  ·exact⟨_,h⟩
 refine⟨fun j o' ho'=> ?_,fun j o' ho'=> ?_,fun j j' o' p' ho' hp' he=> ?_,fun j o' ho'=> ?_,fun b hb=> ?_,hr.nj hx⟩
 ·obtain⟨vq,h⟩:=si j o' ho';exact hr.lt j vq h
 ·rcases key j o' ho' with⟨rfl,rfl⟩|⟨hj,h⟩
  ·exact .vec g2 sz elems' yA C' ty fz e6 hle heq hty hc hf fun p j' e v x h1 h2 h3=>(hcell p j' e v x h1 h2 h3).mono hr hx
  ·exact(hr.obj j o' h).mono hr hx (e5 _ fun he=>hj (hr.inj j i _ _ h ho he))
 ·obtain⟨vq,h⟩:=si j o' ho'
  obtain⟨p'',h'⟩:=si j' p' hp';exact hr.inj j j' _ _ h h' he
 ·obtain⟨vq,h⟩:=si j o' ho';exact hr.apart j vq h
 ·rw[e4];exact hr.im b hb
theorem BZ{n:Nat}{l:List (Nat×ai)}{i g sz:Nat}{elems elems':List SV}{sk yA:Sk}(ho:ak l i=some (.vec g sz elems sk))(cb:Obj):
  Ext c ⟨n,l⟩ w (c.push i w.heap.size) ⟨n,bt l i (.vec (g+1) sz elems' yA)⟩ (w.alloc cb) where
 os:=rfl
 tape:=rfl
 output:=rfl
 size:=by rw[lz];omega
 frame b hb _:=ic w cb b hb
 shape b hb:=by simp only[World.shape?,ic w cb b hb]
 im _ hb:=hb
 im' _ hb:= .inl hb
 cI:=Nat.le_refl _
 old j o' hj ho':=by
  simp only[Heap.obj,ef]at ho';by_cases h:j=i
  ·subst h
   rw[if_pos rfl,ho]at ho';cases ho'
   exact⟨_,ho,Nat.le_succ _,rfl,fun e=>by simp[ai.gen]at e⟩
  ·rw[if_neg h]at ho'
   exact⟨o',ho',Nat.le_refl _,rfl,fun _=>by simp[Cx.push,h]⟩
 new j o' ho':=by
  simp only[Heap.obj,ef]at ho';by_cases h:j=i
  ·subst h;left;simp[Cx.push]
  ·rw[if_neg h]at ho';exact .inr ⟨o',ho',by simp[Cx.push,h]⟩
theorem JY{n:Nat}{l:List (Nat×ai)}{i g sz:Nat}{elems elems':List SV}{sk:Sk}{C':Array Value}{ty:TypeId}(hr:bT c ⟨n,l⟩ w)(ho:ak l i=some (.vec g sz elems sk))
  {Qp:Option TypeId}(hty: ∀t,Qp=some t->t=ty)(hle:elems'.length*sz<=C'.size)(hc: ∀v∈elems',v.cells.length=sz)
  (hcell: ∀(p j:Nat) (e v:SV) (x:Value),elems'[p]? =some e->e.cells[j]? =some v->C'[p*sz+j]? =some x->VR c ⟨n,l⟩ w v x):
  bT (c.push i w.heap.size) ⟨n,bt l i (.vec (g+1) sz elems' ⟨true,Qp⟩)⟩ (w.alloc (.cells C' ty)):=by
 have hx:Ext c ⟨n,l⟩ w (c.push i w.heap.size) ⟨n,bt l i (.vec (g+1) sz elems' ⟨true,Qp⟩)⟩ (w.alloc (.cells C' ty)):=BZ ho _
 have key: ∀j o',(Heap.mk n (bt l i (.vec (g+1) sz elems' ⟨true,Qp⟩))).obj j=some o'->(j=i/\o'= .vec (g+1) sz elems' ⟨true,Qp⟩)\/(j≠i/\ak l j=some o'):=by
  intro j o' ho';simp only[Heap.obj,ef]at ho';by_cases h:j=i
  ·rw[if_pos h,ho]at ho';cases ho';exact .inl ⟨h,rfl⟩
  ·rw[if_neg h]at ho';exact .inr ⟨h,ho'⟩
 have mL: ∀j,j≠i->(c.push i w.heap.size).β j=c.β j:=fun j hj=>by simp[Cx.push,hj]
 have Nc:(c.push i w.heap.size).β i=w.heap.size:=by simp[Cx.push]
 refine⟨fun j o' ho'=> ?_,fun j o' ho'=> ?_,fun j j' o' p' ho' hp' he=> ?_,fun j o' ho'=> ?_,fun b hb=> ?_,hr.nj hx⟩
 ·rcases key j o' ho' with⟨rfl,_⟩|⟨_,h⟩
  ·exact hr.lt _ _ ho
  ·exact hr.lt j _ h
 ·rcases key j o' ho' with⟨rfl,rfl⟩|⟨hj,h⟩
  ·rw[Nc]
   exact .vec (g+1) sz elems' ⟨true,Qp⟩ C' ty (0,0) (dM _ _) hle (fun e=>by cases e) hty hc (by simp) fun p j' e v x h1 h2 h3=>(hcell p j' e v x h1 h2 h3).mono hr hx
  ·rw[mL j hj]
   exact(hr.obj j o' h).mono hr hx (ic w _ _ (hr.obj j o' h).lt)
 ·rcases key j o' ho' with⟨rfl,_⟩|⟨hj,h⟩<;>rcases key j' p' hp' with⟨rfl,_⟩|⟨hj',h'⟩
  ·rfl
  ·rw[Nc,mL j' hj']at he
   have:=(hr.obj j' p' h').lt;omega
  ·rw[Nc,mL j hj]at he
   have:=(hr.obj j o' h).lt;omega
  ·rw[mL j hj,mL j' hj']at he
   exact hr.inj j j' _ _ h h' he
 ·rcases key j o' ho' with⟨rfl,_⟩|⟨hj,h⟩
  ·rw[Nc]
   intro hb;have:w.heap.size<w.heap.size:=hr.im _ hb;omega
  ·rw[mL j hj];exact hr.apart j o' h
 ·rw[lz]
  have:b<w.heap.size:=hr.im b hb;omega
theorem Pc{n:Nat}{l:List (Nat×ai)}{i g sz len cc:Nat}{elems:List SV}{sk:Sk}{w':World}{C:Array Value}{ty:TypeId}{fz:Nat×Nat}{cap:Option Nat}{off:Nat}(hi:i<n)(ho:ak l i=some (.vec g sz elems sk))
  (hb:w'.heap[c.β i]? =some (.cells C ty fz))(hlc:len<=cc)(hcap: ∀k,cap=some k->cc=k)(hC:off*sz+cc*sz<=C.size)(Tj:cap=none->off*sz+cc*sz=C.size):VR c ⟨n,l⟩ w' (.sl i g sz off len cap) (.slice (some ⟨c.β i,off*sz,none⟩) len cc):=
 .sl _ _ _ _ _ _ _ ⟨_,_,_,rfl⟩ hi (fun o' ho'=>by
  have Al:ak l i=some o':=ho';rw[ho]at Al;cases Al;exact Nat.le_refl _) fun o' ho' _=>by
  have Al:ak l i=some o':=ho';rw[ho]at Al;cases Al
  exact⟨rfl,_,_,rfl,hlc,hcap,.inr ⟨rfl,ty,C.size,by simp[World.shape?,hb],hC⟩,fun h=>⟨ty,C.size,by simp[World.shape?,hb],Tj h⟩⟩
theorem tF(l:List (Nat×ai))(i:Nat)(o o':ai)(ho:ak l i=some o):ak (bt l i o') i=some o':=by
 rw[ef,if_pos rfl,ho];rfl
theorem wA{z:Value}{sz:Nat}(hk:(bw 4 z).known=true)(hs:(bw 4 z).cells.length=sz):z.cells.size=sz:=by
 have hz:VR ⟨fun _=>0,fun _=>False⟩ ⟨0,[]⟩ default (bw 4 z) z:= .pure (ei 4 z);exact(pM hz (fun hh=>by rw[hh]at hk;cases hk)).1.trans hs
theorem pO{sz:Nat}{elems:List SV}{vals:List Value}(hl:LW c h w sz elems vals)(rest:Array Value):elems.length*sz<=(vals.toArray++rest).size/\(∀ v∈elems,v.cells.length=sz)/\
  ∀(p j:Nat) (e v:SV) (x:Value),elems[p]? =some e->e.cells[j]? =some v->(vals.toArray++rest)[p*sz+j]? =some x->VR c h w v x:=by
 refine⟨by simp[hl.1],hl.2.1,fun p j e v x he hv hx=> ?_⟩;have hj:j<sz:=by rw[<- hl.2.1 e (List.mem_of_getElem? he)];exact eT hv
 have hlt:p*sz+j<vals.length:=by rw[hl.1];exact rJ (eT he) hj
 rw[Array.getElem?_append,if_pos (by simpa using hlt)]at hx;exact hl.2.2 p j e v x he hv (by simpa using hx)
theorem uG{a:Option TypeId}{u t:TypeId}(h:joinTy a u=some t):a=some t/\t=u:=by
 unfold joinTy at h;split at h
 ·rename_i t'
  rcases bO t' u with⟨h1,h2⟩|⟨h1,_⟩
  ·rw[h1]at h
   have h':some u=some t:=h;cases h'
   exact⟨by rw[h2],rfl⟩
  ·rw[h1]at h;cases h
 ·cases h
theorem B4(hr:bT c h w)(he:ER c h w e a.tmps){cl:Call}{x y:Operand}{t u el:TypeId}{i:TypeInfo}{z:Value}(ho:o.op= .call cl)(eD:cl.callee= .builtin .append)(hargs:cl.args.toList=[x,y])(js:cl.argTypes.toList=[t,u])
  (ht:P.underlying t=some (.slice el))(hu:(∃ e',P.underlying u=some (.slice e'))\/P.underlying u=some .string)(hi:P.info? el=some i)(hz:i.zero=some z)(hs:(bw 4 z).cells.length=i.size)(hk:(bw 4 z).known=true)
  (hp:bF P Γ (.append el i.size i.bytes (aD x) (aD y)) e h k kp):jt P c h w a o k:=by
 simp only[bF,aE,aS]at hp;have hx:=he.ev x;have hy:=he.ev y;generalize (aD x).ev e=sx at hp hx;have TB:=wz hr hy hp hu;clear hp;obtain⟨xs,news,hp,hL,hsrc,_⟩:=TB;have hzs:z.cells.size=i.size:=wA hk hs;have de:cl.args= #[x,y]:=by simpa using congrArg List.toArray hargs
 have kW:cl.argTypes= #[t,u]:=by simpa using congrArg List.toArray js
 have hrun: ∀v' w',(Builtin.append_ #[t,u] o.type #[a.eval x,a.eval y]).run P w= .ok v' w'->(execOp a.eval o).run P w= .ok (.value v') w':=by
  intro v' w' hrun;simp[execOp,ho,resolve,eD,de,kW,invoke,builtin,hrun]
 split at hp
 ·
  simp only[LW,List.length_nil,Nat.zero_mul]at hL;obtain⟨hl0,_,_⟩:=hL;have hn0:news=[]:=List.eq_nil_of_length_eq_zero hl0;subst hn0;have hs0:=hsrc (fun u hu=>by cases hu);simp only[List.length_nil]at hs0
  have hroom: ∀base sLen sCap,a.eval x= .slice base sLen sCap->sLen<=sCap->(execOp a.eval o).run P w= .ok (.value (.slice base sLen sCap)) w:=by
   intro base sLen sCap dA hle;refine hrun _ _ ?_;rw[dA];rcases hs0.kind with⟨e',hk⟩|hk<;>cases base<;>simp[Builtin.append_,run_underlying ht,run_underlying hk,Go.sizeOf,typeInfo,hi,hs0.len,hle,hs0.cells,storeCells]
  split at hp
  ·exact(dW.of _ _ hp (hroom _ _ _ hx.cF (Nat.le_refl _)) (.pure .af)).does hr
  ·obtain⟨hp,sz',elems,sk,bZ⟩:=eR hp
   obtain⟨_,ad,cc,dA,hlc,_,_⟩:=hx.iS bZ rfl;exact(dW.of _ _ hp (hroom _ _ _ dA hlc) (dA▸hx)).does hr
  ·obtain⟨ad,cap,dA,hlc,_⟩:=hx.oh
   exact(dW.of _ _ hp (hroom _ _ _ dA hlc) (dA▸hx)).does hr
  ·exact hp.elim
 ·rename_i x0 xr
  generalize hxs:x0::xr=xs at hp hL hsrc;have hpos:0<xs.length:=by rw[<- hxs];simp
  replace hp:=ah.1 hp
  obtain⟨hone,hp⟩:=hp;have hs1:=hsrc (hL.one hone)
  have grow: ∀(base:Option Addr) (sLen sCap:Nat) (els:List SV) (olds:List Value),a.eval x= .slice base sLen sCap->LW c h w i.size els olds->els.length=sLen->
    (Builtin.firstCells i.size sLen (.slice base sLen sCap)).run P w.drew= .ok olds.toArray w.drew->sCap<sLen+xs.length->(sLen+xs.length<=9223372036854775807/\(sLen+xs.length)*i.bytes<=140737488355328)->
    ∃rest HS,(execOp a.eval o).run P w= .ok (.value (.slice (some ⟨w.heap.size,0,none⟩) (sLen+xs.length) HS)) (w.drew.alloc (.cells ((olds++news).toArray++rest) el))/\sLen+xs.length<=HS/\HS*i.size=((olds++news).toArray++rest).size:=by
   intro base sLen sCap els olds dA WA Qq hold hg ⟨h63,hbytes⟩;refine⟨Builtin.zeroCells z.cells (grownCap w (sLen+xs.length) sCap el-(sLen+xs.length)),grownCap w (sLen+xs.length) sCap el,hrun _ _ ?_,grownCap_ge w _ _ _,?_⟩
   ·rw[dA]
    exact run_append_grow_src (P:=P) w t u o.type el i z ht hi hz base sLen sCap olds hold (a.eval y) xs.length news hs1 hg (by omega) (growslice_fits hg hbytes)
   ·have hge:=grownCap_ge w (sLen+xs.length) sCap el
    simp only[Array.size_append,List.size_toArray,List.length_append,WA.1,hL.1,Qq,size_zeroCells,hzs];rw[<- Nat.add_mul,<-Nat.add_mul];exact congrArg (· *i.size) (by omega)
  have fresh: ∀(base:Option Addr) (sLen sCap:Nat) (els:List SV) (olds:List Value) (K:SV->Heap->Prop),a.eval x= .slice base sLen sCap->LW c h w i.size els olds->els.length=sLen->
    (Builtin.firstCells i.size sLen (.slice base sLen sCap)).run P w.drew= .ok olds.toArray w.drew->sCap<sLen+xs.length->(sLen+xs.length<=9223372036854775807/\(sLen+xs.length)*i.bytes<=140737488355328)->
    K (.sl h.cI 0 i.size 0 (sLen+xs.length) none) ⟨h.cI+1,(h.cI,.vec 0 i.size (els++xs) ⟨true,some el⟩)::h.l⟩->jt P c h w a o K:=by
   intro base sLen sCap els olds K dA WA Qq hold hg hroom hK;obtain⟨rest,HS,og,wB,hn2⟩:=grow base sLen sCap els olds dA WA Qq hold hg hroom;obtain⟨n,l⟩:=h;have hall:=pO (WA.append hL) rest;have hrd:=nH hr;have MT:Ext c ⟨n,l⟩ w c ⟨n,l⟩ w.drew:=ko
   refine⟨_,_,_,c.push n w.heap.size,_,hK,.inl og,kj hrd _ _ (.vec 0 i.size _ ⟨true,some el⟩ _ el (0,0) (dM _ _) hall.1 (fun e=>by cases e) (fun _ h=>(Option.some.inj h).symm) hall.2.1 (by simp) fun p j e v x' h1 h2 h3=>((hall.2.2 p j e v x' h1 h2 h3).mono hr MT).mono hrd (eE hrd _ _)),
    MT.trans hr (eE hrd _ _),?_⟩
   exact .sl _ _ _ _ _ _ _ ⟨_,_,_,rfl⟩ (Nat.lt_succ_self _) (fun _ _=>Nat.zero_le _) fun o' ho' _=>by
    rw[cG,if_pos rfl]at ho';cases ho'
    have hsh:(w.drew.alloc (.cells ((olds++news).toArray++rest) el)).shape? ((c.push n w.heap.size).β n)=some (el,((olds++news).toArray++rest).size):=by simp only[World.shape?,Cx.push,if_pos];rw[show w.heap.size=w.drew.heap.size from rfl,dM]
    refine⟨rfl,_,_,rfl,wB,fun k hk=>(by cases hk),.inr ⟨by simp[Cx.push],el,_,hsh,by omega⟩,fun _=>⟨el,_,hsh,by omega⟩⟩
  split at hp
  ·
   replace hp:=ah.1 hp
   obtain⟨hroom,hp⟩:=hp;simp only[Bool.and_eq_true,decide_eq_true_eq]at hroom;refine fresh none 0 0 [] [] k hx.cF ⟨by simp,fun v hv=>by simp at hv,fun i j e v x he=>by simp at he⟩ rfl (run_firstCells_none w.drew i.size 0 0 0) (by omega) (by simpa using hroom) ?_;obtain⟨n,l⟩:=h;simpa using hp
  ·rename_i ii g sz' off len cap
   replace hp:=ah.1 hp
   obtain⟨hsz,hp⟩:=hp;have hsz:=Nat.eq_of_beq_eq_true hsz;subst hsz;obtain⟨n,l⟩:=h;simp only[bg]at hp;split at hp
   ·rename_i ob bZ
    split at hp
    ·rename_i g' iK elems sk
     replace hp:=ah.1 hp
     obtain⟨hg,hp⟩:=hp;have hg:=Nat.eq_of_beq_eq_true hg;subst hg;obtain⟨iz,ad,cc,dA,hlc,hcap,jn⟩:=hx.iS (o:= .vec g' iK elems sk) bZ rfl;simp only[ai.sz]at iz;have hin:ii<n:=hr.lt ii _ bZ
     have olds:off+len<=elems.length-> ∃vals,LW c ⟨n,l⟩ w i.size ((elems.drop off).take len) vals/\((elems.drop off).take len).length=len/\(Builtin.firstCells i.size len (.slice (some ad) len cc)).run P w.drew= .ok vals.toArray w.drew:=by
      intro hle;have Aw:((elems.drop off).take len).length=len:=by simp;omega
      rcases jn with h0|⟨rfl,ty,m,hsh,hle'⟩
      ·have hl0:len=0:=by omega
       subst hl0;refine⟨[],⟨by simp,fun v hv=>by simp at hv,fun i j e v x he=>by simp at he⟩,by simp,?_⟩;exact run_firstCells_some w.drew i.size 0 ad 0 cc [] (by simp) (fun j u hu=>by simp at hu)
      ·obtain⟨vals,Pe,hvl,eD⟩:=y7 hr (i:=ii) (g:=g') (sz:=iK) (elems:=elems) (sk:=sk) bZ hle
       rw[iz]at Pe hvl eD;exact⟨vals,Pe,Aw,run_firstCells_some w.drew i.size len _ len cc vals hvl (by simpa using eD)⟩
     have place: ∀(g2:Nat) (yA:Sk) (elems':List SV) (cap':Option Nat),(cap'=none->cap=none)->g'<=g2->len+xs.length<=cc->(∀ k,cap'=some k->cc=k)->off+len<=elems.length->
       (∀ p,elems'[p]? =if off+len<=p/\p<off+len+xs.length then xs[p-(off+len)]? else elems[p]?)->(yA.fS=false->sk.fS=false/\elems'.length=elems.length)->(∀ t,yA.ty=some t->sk.ty=some t)->
       k (.sl ii g2 i.size off (len+xs.length) cap') ⟨n,bt l ii (.vec g2 iK elems' yA)⟩->jt P c ⟨n,l⟩ w a o k:=by
      intro g2 yA elems' cap' Pb qQ hfit TC hle hel Z4 Xl hK;rcases jn with h0|⟨rfl,ty,m,hsh,hle'⟩
      ·omega
      ·cases hr.obj ii _ bZ with
       |vec _ _ _ _ C ty' fz hw yz heq hty hc hf hcell=>
        have WB:m=C.size:=by
         simp only[World.shape?,hw,Option.some.injEq,Prod.mk.injEq]at hsh;exact hsh.2.symm
        have e0:(len+xs.length)*i.size<=cc*i.size:=Nat.mul_le_mul_right _ hfit;rw[Nat.add_mul]at e0
        obtain⟨w',C',hst,e1,e2,e3,e4,e5,e6,e7,e8⟩:=iV P (c.β ii) (off*i.size+len*i.size) ty' fz news 0 C w hw hf (by
         right;rw[hL.1,<-WB];omega) hs1.one
        have rI:w'.shape? (c.β ii)=w.shape? (c.β ii):=by simp only[World.shape?,e6,hw,e7]
        have MQ:=BX (n:=n) (elems':=elems') (yA:=yA) bZ qQ e1 e2 e3 e4 e5 rI
        have hlen':elems'.length*iK<=C'.size:=by
         rcases Nat.lt_or_ge (off+len+xs.length) elems.length with hlt|hge
         ·have:elems'.length<=elems.length:=by
           rcases Nat.lt_or_ge elems.length elems'.length with hh|hh
           ·have h1:=hel elems.length
            rw[if_neg (by omega),List.getElem?_eq_none (Nat.le_refl _)]at h1;rw[List.getElem?_eq_getElem hh]at h1;cases h1
           ·exact hh
          have:=Nat.mul_le_mul_right iK this;rw[e7];omega
         ·have:elems'.length<=off+len+xs.length:=by
           rcases Nat.lt_or_ge (off+len+xs.length) elems'.length with hh|hh
           ·have h1:=hel (off+len+xs.length)
            rw[if_neg (by omega),List.getElem?_eq_none hge]at h1;rw[List.getElem?_eq_getElem hh]at h1;cases h1
           ·exact hh
          have:=Nat.mul_le_mul_right iK this;rw[iz,Nat.add_mul,Nat.add_mul]at this;rw[e7,<-WB,iz];omega
        have B5: ∀v∈elems',v.cells.length=iK:=by
         intro v hv;obtain⟨p,hp⟩:=List.mem_iff_getElem?.1 hv;rw[hel]at hp;split at hp
         ·rw[iz];exact hL.2.1 v (List.mem_of_getElem? hp)
         ·exact hc v (List.mem_of_getElem? hp)
        refine⟨_,.slice (some ⟨c.β ii,off*i.size,none⟩) (len+xs.length) cc,_,c,w',hK,.inl (hrun _ _ ?_),BY hr bZ MQ e4 e5 e6 hlen' (fun Xm=> ?_) (fun t ht=>hty t (Xl t ht)) B5 (by rw[e7];exact hf) (fun p j ee v z' uE hv HT=> ?_),MQ,?_⟩
        ·rw[dA]
         rcases hs1.kind with⟨e',hk⟩|hk<;>simp[Builtin.append_,run_underlying ht,run_underlying hk,Go.sizeOf,typeInfo,hi,hs1.len,hfit,hs1.cells,add_eq,hst]
        ·obtain⟨h1,h2⟩:=Z4 Xm
         rw[h2,e7];exact heq h1
        ·have hj:j<iK:=by rw[<- B5 ee (List.mem_of_getElem? uE)];exact eT hv
         rw[e8]at HT;simp only[Nat.add_zero]at HT;rw[hel]at uE;by_cases TD:off+len<=p/\p<off+len+xs.length
         ·rw[if_pos TD]at uE
          have e9:p*iK=off*i.size+len*i.size+(p-(off+len))*iK:=by
           rw[iz,<-Nat.add_mul,<-Nat.add_mul];congr 1;omega
          have hlt2:=rJ (sz:=iK) (eT uE) hj;rw[<- iz]at hL;rw[if_pos (by rw[hL.1];omega)]at HT;refine hL.2.2 _ j ee v z' uE hv ?_;rw[<- HT];congr 1
          omega
         ·rw[if_neg TD]at uE
          have hout: ¬(off*i.size+len*i.size<=p*iK+j/\p*iK+j<off*i.size+len*i.size+news.length):=by
           intro⟨q1,q2⟩;rw[hL.1,<-iz,<-Nat.add_mul,<-Nat.add_mul]at q2;rw[<- iz,<-Nat.add_mul]at q1;rcases Nat.lt_or_ge p (off+len)with hlt|hge
           ·have:=rJ (sz:=iK) hlt hj
            omega
           ·have:off+len+xs.length<=p:=by omega
            have:=Nat.mul_le_mul_right iK this;omega
          rw[if_neg hout]at HT;exact hcell p j ee v z' uE hv HT
        ·have:=Pc (c:=c) (off:=off) (n:=n) (w':=w') (cc:=cc) (len:=len+xs.length) (cap:=cap') hin (tF l ii _ (.vec g2 iK elems' yA) bZ) e6 hfit TC (by rw[e7,<-WB,iz];exact hle') (fun hc=>by
          have TE:=Pb hc;subst TE;obtain⟨Z5,m2,hs2,iL⟩:=hx.Am (o:= .vec g' iK elems sk) bZ rfl dA;rw[hsh]at hs2;cases hs2
          rw[e7,<-WB,iz];exact iL)
         rw[iz]at this;rw[<- iz]at this ⊢;exact this
     split at hp
     ·
      rename_i cp;have B6:=hcap cp rfl;rcases Bw hp with⟨hb,hp⟩|⟨hb,hp⟩
      ·have hfit:=Nat.le_of_ble_eq_true hb
       obtain⟨Qr,hp⟩:=ff.1 hp;rw[cL]at hp
       have Qr:off+len+xs.length<=elems.length:=by
        rcases Qr with h|h
        ·rw[h]at hpos;simp at hpos
        ·exact h
       refine place g' sk _ (some cp) (fun h=>by cases h) (Nat.le_refl _) (by omega) (fun k hk=>by cases hk;exact B6) (by omega) (fun p=>ju _ _ _ _ Qr) (fun hs=>⟨hs,fZ _ _ _⟩) (fun _ h=>h) hp
      ·have hfit: ¬(len+xs.length<=cp):=fun hle=>by
        rw[Nat.ble_eq_true_of_le hle]at hb;cases hb
       replace hp:=ah.1 hp
       obtain⟨hroom,hp⟩:=hp;simp only[Bool.and_eq_true,decide_eq_true_eq]at hroom;obtain⟨hl1,hp⟩:=dQ.1 hp;obtain⟨u7,hp⟩:=cU.1 hp;rw[sn]at hp;simp only[List.length_drop]at u7;obtain⟨vals,Pe,Aw,hold⟩:=olds (by omega);exact fresh _ len cc _ vals k dA Pe Aw hold (by omega) hroom hp
     ·
      have yo:=Bw hp;clear hp;rcases yo with⟨hb,hp⟩|⟨_,hp⟩
      ·simp only[Bool.and_eq_true]at hb
       have hs0:0<i.size:=Nat.lt_of_succ_le (Nat.le_of_ble_eq_true hb.1);have hle:=Nat.le_of_ble_eq_true hb.2;obtain⟨_,hp⟩:=ff.1 hp;rw[cL]at hp;obtain⟨Z5,m2,hs2,iL⟩:=hx.Am (o:= .vec g' iK elems sk) bZ rfl dA
       have hfit:len+xs.length<=cc:=by
        cases hr.obj ii _ bZ with
        |vec _ _ _ _ C ty' fz hw yz _ _ _ _ _=>
         have hm2:m2=C.size:=by
          simp only[World.shape?,hw,Option.some.injEq,Prod.mk.injEq]at hs2;exact hs2.2.symm
         have h1:(off+(len+xs.length))*i.size<=(off+cc)*i.size:=by
          rw[Nat.add_mul off cc,iL,hm2];refine Nat.le_trans (Nat.mul_le_mul_right _ ?_) (iz▸yz);omega
         have h2:=Nat.le_of_mul_le_mul_right h1 hs0;omega
       exact place g' sk _ none (fun _=>rfl) (Nat.le_refl _) hfit (fun k hk=>by cases hk) (by omega) (fun p=>ju _ _ _ _ hle) (fun hs=>⟨hs,fZ _ _ _⟩) (fun _ h=>h) hp
      replace hp:=ah.1 hp
      obtain⟨aJ,hp⟩:=hp;simp only[Bool.and_eq_true,decide_eq_true_eq]at aJ;obtain⟨⟨hoff,hlen⟩,hroom⟩:=aJ;have hoff:=Nat.eq_of_beq_eq_true hoff;have hlen:=Nat.eq_of_beq_eq_true hlen;subst hoff;rw[sn,cL]at hp;by_cases hfit:len+xs.length<=cc
      ·refine place (g'+1) ⟨true,joinTy sk.ty el⟩ (elems++xs) none (fun _=>rfl) (Nat.le_succ _) hfit (fun k hk=>by cases hk) (by omega) (fun p=> ?_) (fun hs=>by cases hs) (fun t ht=>(uG ht).1) hp
       rw[List.getElem?_append];by_cases h1:p<elems.length
       ·rw[if_pos h1,if_neg (by omega)]
       ·rw[if_neg h1]
        by_cases h2:0+len<=p/\p<0+len+xs.length
        ·rw[if_pos h2];congr 1;omega
        ·rw[if_neg h2,List.getElem?_eq_none (by omega),List.getElem?_eq_none (by omega)]
      ·obtain⟨vals,Pe,Aw,hold⟩:=olds (by omega)
       obtain⟨rest,HS,og,wB,hn2⟩:=grow (some ad) len cc _ vals dA Pe Aw hold (by omega) hroom;have hfull:(elems.drop 0).take len=elems:=by rw[List.drop_zero,hlen,List.take_length]
       rw[hfull]at Pe;have hall:=pO (Pe.append hL) rest;rw[<- iz]at hall;have hrd:=nH hr;have MT:Ext c ⟨n,l⟩ w c ⟨n,l⟩ w.drew:=ko;have Z6:=JY (ty:=el) hrd bZ (Qp:=joinTy sk.ty el) (fun t ht=>(uG ht).2) hall.1 hall.2.1 fun p j e v x' h1 h2 h3=>(hall.2.2 p j e v x' h1 h2 h3).mono hr MT
       refine⟨_,_,_,c.push ii w.heap.size,_,hp,.inl og,Z6,MT.trans hr (BZ bZ _),?_⟩
       have:=Pc (c:=c.push ii w.heap.size) (off:=0) (n:=n) (cc:=HS) (len:=len+xs.length) (cap:=none) hin (tF l ii _ (.vec (g'+1) iK (elems++xs) ⟨true,joinTy sk.ty el⟩) bZ)
        (w':=w.drew.alloc (.cells ((vals++news).toArray++rest) el)) (C:=(vals++news).toArray++rest) (ty:=el) (fz:=(0,0)) (by simp only[Cx.push,if_pos];exact dM w.drew _) wB (fun k hk=>by cases hk) (by rw[iz];omega) (fun _=>by rw[iz];omega)
       rw[iz]at this ⊢;simpa[Cx.push]using this
    ·exact hp.elim
   ·exact hp.elim
  ·exact hp.elim
end
end
end Ab
