/- Parts of the proof of PCatalogBack, one behind the other, with short names. -/
import Derived.Test.YtegmnocpkgpgeaaGreatDoorZ5
set_option linter.unusedVariables false
set_option linter.unusedSimpArgs false
namespace Ab
open Go
section
section
variable {P:Program} {Γ:bR} {c:Cx} {h:Heap} {w:World} {e:Env} {a:Act} {o:Oper} {k kp:SV->Heap->Prop}
theorem OR.mono{c':Cx}{h':Heap}{w':World}(hr:bT c h w)(hx:Ext c h w c' h' w'){b:Nat}{ob:ai}(hb:w'.heap[b]? =w.heap[b]?)(ho:OR c h w b ob):OR c' h' w' b ob:=by
 cases ho with
 |vec g sz elems fS C ty fz hw hle heq hty hc hf hcell=>exact .vec g sz elems fS C ty fz (hb.trans hw) hle heq hty hc hf fun i j e v x h1 h2 h3=>(hcell i j e v x h1 h2 h3).mono hr hx
 |iter s pos hw=>exact .iter s pos (hb.trans hw)
 |map es cl hw hs=>exact .map es cl (hb.trans hw) hs
 |cy m since seen stepped r hw hm=>exact .cy m since seen stepped r (hb.trans hw) (hm.mono hr hx)
 |kf g ty xs C fz hw hle hc=>exact .kf g ty xs C fz (hb.trans hw) hle hc
def Cx.push(c:Cx)(n b:Nat):Cx:=⟨fun i=>if i=n then b else c.β i,c.Im⟩
theorem cG(n:Nat)(l:List (Nat×ai))(ob:ai)(i:Nat):(Heap.mk (n+1) ((n,ob)::l)).obj i=if n=i then some ob else ak l i:=rfl
theorem ic(w:World)(ob:Obj)(b:Nat)(hb:b<w.heap.size):(w.alloc ob).heap[b]? =w.heap[b]? :=by
 show(w.heap.push ob)[b]? =_;rw[Array.getElem?_push,if_neg (by omega)]
theorem dM(w:World)(ob:Obj):(w.alloc ob).heap[w.heap.size]? =some ob:=by
 show(w.heap.push ob)[w.heap.size]? =_;simp
theorem lz(w:World)(ob:Obj):(w.alloc ob).heap.size=w.heap.size+1:=by
 show(w.heap.push ob).size=_;simp
theorem eE{n:Nat}{l:List (Nat×ai)}(hr:bT c ⟨n,l⟩ w)(ob:ai)(cb:Obj):Ext c ⟨n,l⟩ w (c.push n w.heap.size) ⟨n+1,(n,ob)::l⟩ (w.alloc cb) where
 os:=rfl
 tape:=rfl
 output:=rfl
 size:=by rw[lz];omega
 frame b hb _:=ic w cb b hb
 shape b hb:=by simp only[World.shape?,ic w cb b hb]
 im _ hb:=hb
 im' _ hb:= .inl hb
 cI:=Nat.le_succ _
 old i o' hi ho':=by
  simp only at hi;rw[cG,if_neg (by omega)]at ho';exact⟨o',ho',Nat.le_refl _,rfl,fun _=>by simp[Cx.push];omega⟩
 new i o' ho':=by
  rw[cG]at ho';by_cases hi:n=i
  ·subst hi;left;simp[Cx.push]
  ·rw[if_neg hi]at ho'
   exact .inr ⟨o',ho',by simp[Cx.push];omega⟩
theorem kj{n:Nat}{l:List (Nat×ai)}(hr:bT c ⟨n,l⟩ w)(ob:ai)(cb:Obj)(ho:OR (c.push n w.heap.size) ⟨n+1,(n,ob)::l⟩ (w.alloc cb) w.heap.size ob):bT (c.push n w.heap.size) ⟨n+1,(n,ob)::l⟩ (w.alloc cb):=by
 have hx:=eE hr ob cb;have hlt: ∀i o,ak l i=some o->i<n:=fun i o ho=>hr.lt i o ho
 refine⟨fun i o' ho'=> ?_,fun i o' ho'=> ?_,fun i j o' p' ho' hp' he=> ?_,fun i o' ho'=> ?_,fun b hb=> ?_,hr.nj hx⟩
 ·rw[cG]at ho'
  by_cases hi:n=i
  ·subst hi;exact Nat.lt_succ_self _
  ·rw[if_neg hi]at ho';exact Nat.lt_succ_of_lt (hlt i o' ho')
 ·rw[cG]at ho'
  by_cases hi:n=i
  ·subst hi
   rw[if_pos rfl]at ho';cases ho'
   simpa[Cx.push]using ho
  ·rw[if_neg hi]at ho'
   have jn:=hr.obj i o' ho';have mL:(c.push n w.heap.size).β i=c.β i:=by simp[Cx.push];omega
   rw[mL];exact jn.mono hr hx (ic w cb _ jn.lt)
 ·rw[cG]at ho' hp'
  simp only[Cx.push]at he;by_cases hi:n=i
  ·by_cases hj:n=j
   ·omega
   ·rw[if_neg hj]at hp'
    rw[if_pos hi.symm,if_neg (fun e=>hj e.symm)]at he;have:=(hr.obj j p' hp').lt;omega
  ·rw[if_neg hi]at ho'
   by_cases hj:n=j
   ·rw[if_neg (fun e=>hi e.symm),if_pos hj.symm]at he
    have:=(hr.obj i o' ho').lt;omega
   ·rw[if_neg hj]at hp'
    rw[if_neg (fun e=>hi e.symm),if_neg (fun e=>hj e.symm)]at he;exact hr.inj i j o' p' ho' hp' he
 ·rw[cG]at ho'
  by_cases hi:n=i
  ·subst hi
   simp only[Cx.push,if_pos];intro hb;have:=hr.im _ hb;omega
  ·rw[if_neg hi]at ho'
   simp only[Cx.push,if_neg (fun e=>hi (Eq.symm e))];exact hr.apart i o' ho'
 ·rw[lz]
  have:=hr.im b hb;omega
def jt(P:Program)(c:Cx)(h:Heap)(w:World)(a:Act)(o:Oper)(k:SV->Heap->Prop):Prop:=
 ∃v x h' c' w',k v h'/\((execOp a.eval o).run P w= .ok (.value x) w'\/((execOp a.eval o).run P w= .ok .skip w'/\x=undef))/\bT c' h' w'/\Ext c h w c' h' w'/\VR c' h' w' v x
theorem dW.does(hr:bT c h w)(hs:dW P c h w a o k):jt P c h w a o k:=by
 obtain⟨v,x,hk,hrun,hv⟩:=hs;exact⟨v,x,h,c,w,hk,.inl hrun,hr,.refl,hv⟩
theorem wm{n:Nat}{l:List (Nat×ai)}(hr:bT c ⟨n,l⟩ w)(sz:Nat)(elems:List SV)(C:Array Value)(ty:TypeId)(heq:elems.length*sz=C.size)(hc: ∀v∈elems,v.cells.length=sz)
  (hcell: ∀(i j:Nat) (e v:SV) (x:Value),elems[i]? =some e->e.cells[j]? =some v->C[i*sz+j]? =some x->VR c ⟨n,l⟩ w v x):
  bT (c.push n w.heap.size) ⟨n+1,(n,.vec 0 sz elems ⟨false,some ty⟩)::l⟩ (w.alloc (.cells C ty)):=
 kj hr _ _ (.vec 0 sz elems ⟨false,some ty⟩ C ty (0,0) (dM _ _) (by omega) (fun _=>heq) (fun _ h=>(Option.some.inj h).symm) hc (by simp) fun i j e v x h1 h2 h3=>(hcell i j e v x h1 h2 h3).mono hr (eE hr _ _))
theorem Au{n:Nat}{l:List (Nat×ai)}{sz:Nat}{elems:List SV}{sk:Sk}{w':World}{b:Nat}:VR (c.push n b) ⟨n+1,(n,.vec 0 sz elems sk)::l⟩ w' (.ref n 0 0 0) (.pointer (some ⟨b,0,none⟩)):=
 .ref _ _ _ _ _ ⟨_,rfl⟩ (Nat.lt_succ_self _) (fun _ _=>Nat.zero_le _) fun o' ho' _=>by simp[Cx.push]
theorem JV{n:Nat}{l:List (Nat×ai)}{sz len cap:Nat}{elems:List SV}{sk:Sk}{w':World}{b:Nat}{C:Array Value}{ty:TypeId}{fz:Nat×Nat}(hb:w'.heap[b]? =some (.cells C ty fz))(hlc:len<=cap)(hC:cap*sz<=C.size):
  VR (c.push n b) ⟨n+1,(n,.vec 0 sz elems sk)::l⟩ w' (.sl n 0 sz 0 len (some cap)) (.slice (some ⟨b,0,none⟩) len cap):=
 .sl _ _ _ _ _ _ _ ⟨_,_,_,rfl⟩ (Nat.lt_succ_self _) (fun _ _=>Nat.zero_le _) fun o' ho' _=>by
  rw[cG,if_pos rfl]at ho';cases ho'
  refine⟨rfl,_,_,rfl,hlc,fun k hk=>(Option.some.inj hk),.inr ⟨by simp[Cx.push],ty,C.size,by simp[Cx.push,World.shape?,hb],by omega⟩,fun h=>by cases h⟩
theorem pM{v:SV}{x:Value}(hv:VR c h w v x)(hu:v≠ .undef):x.cells.size=v.cells.length/\ ∀(j:Nat) (u:SV) (y:Value),v.cells[j]? =some u->x.cells[j]? =some y->VR c h w u y:=by
 by_cases mP: ∃l,v= .agg l
 ·obtain⟨l,rfl⟩:=mP
  obtain⟨cs,rfl,hl,hc⟩:=hv.iJ;exact⟨hl,hc⟩
 ·have h1:v.cells=[v]:=by cases v<;>first|rfl|exact absurd ⟨_,rfl⟩ mP
  rw[h1,hv.O5 hu (fun l hl=>mP ⟨l,hl⟩)];refine⟨rfl,fun j u y hu hy=> ?_⟩;cases j with
  |zero=>simp at hu hy;subst hu;subst hy;exact hv
  |succ j=>simp at hu
theorem wo(hr:bT c h w){v:SV}{x:Value}{sz:Nat}{t:TypeId}(hv:VR c h w v x)(hrun:(execOp a.eval o).run P w= .ok (.value (.pointer (some ⟨w.heap.size,0,none⟩))) (w.alloc (.cells x.cells t)))
  (hp:v.gE fun vs=>cY (Nat.beq vs.length sz) (match h with|⟨n,l⟩=>k (.ref n 0 0 0) ⟨n+1,(n,.vec 0 sz [v] ⟨false,some t⟩)::l⟩)):jt P c h w a o k:=by
 obtain⟨hu,hp⟩:=dx.1 hp
 replace hp:=ah.1 hp
 obtain⟨hsz,hp⟩:=hp;have hsz:=Nat.eq_of_beq_eq_true hsz;obtain⟨n,l⟩:=h;obtain⟨h1,h2⟩:=pM hv hu;refine⟨_,_,_,_,_,hp,.inl hrun,wm hr sz [v] x.cells t (by simp;omega) (fun u hu=> ?_) (fun i j e u y he hu hy=> ?_),eE hr _ _,Au⟩
 ·simp only[List.mem_singleton]at hu;subst hu;exact hsz
 ·cases i with
  |zero=>simp at he;subst he;exact h2 j u y hu (by simpa using hy)
  |succ i=>simp at he
theorem uD(hr:bT c h w){v:SV}{x:Value}{sz:Nat}{t:TypeId}(hv:VR c h w v x)(hrun:(execOp a.eval o).run P w= .ok (.value (.pointer (some ⟨w.heap.size,0,none⟩))) (w.alloc (.cells x.cells t)))
  (hp:match(generalizing:=false) v,h with
   | .agg cs,⟨n,l⟩=>cY (cZ cs&&Nat.beq cs.length sz) (k (.ref n 0 0 0) ⟨n+1,(n,.vec 0 1 cs ⟨false,some t⟩)::l⟩)
   |_,_=>False):jt P c h w a o k:=by
 split at hp
 ·rename_i cs n l
  replace hp:=ah.1 hp
  obtain⟨hc,hp⟩:=hp;simp only[Bool.and_eq_true]at hc;obtain⟨hone,hlen⟩:=hc;obtain⟨C,rfl,h1,h2⟩:=hv.iJ;have hcells:(Value.agg C).cells=C:=rfl;rw[hcells]at hrun
  have one: ∀v∈cs,v.cells.length=1/\v.cells=[v]:=by
   clear hlen hp h1 h2 hv hrun
   induction cs with
   |nil=>intro v hv;cases hv
   |cons u r ih=>
    simp only[cZ,Bool.and_eq_true]at hone;intro v hv;rcases List.mem_cons.1 hv with rfl|hv
    ·cases v<;>first|exact⟨rfl,rfl⟩|cases hone.1
    ·exact ih hone.2 v hv
  refine⟨_,_,_,_,_,hp,.inl hrun,wm hr 1 cs C t (by omega) (fun u hu=>(one u hu).1) (fun i j e u y he hu hy=> ?_),eE hr _ _,Au⟩;have:=(one e (List.mem_of_getElem? he)).2;rw[this]at hu;cases j with
  |zero=>simp at hu;subst hu;exact h2 i e y he (by simpa using hy)
  |succ j=>simp at hu
 ·exact hp.elim
theorem HQ(hr:bT c h w)(he:ER c h w e a.tmps){t:TypeId}{x:Operand}{i:TypeInfo}(ho:o.op= .box t x)(_hi:P.info? t=some i)(hp:bF P Γ (.rz t i.size (aD x)) e h k kp):jt P c h w a o k:=by
 simp only[bF,aE]at hp;exact uD hr (he.ev x) (t:=t) (by simp[execOp,ho,Instr.box,newVar,newRow]) hp
theorem BV(hr:bT c h w){t:TypeId}{i:TypeInfo}{z:Value}(ho:o.op= .alloc t)(hi:P.info? t=some i)(hz:i.zero=some z)(hp:bF P Γ (.rz t i.size (.const (bw 4 z))) e h k kp):jt P c h w a o k:=by
 simp only[bF,aY.fe]at hp;exact uD hr (x:=z) (.pure (ei 4 z)) (t:=t) (by simp[execOp,ho,Instr.alloc,newVar,newRow,iU hi hz]) hp
theorem JW(hr:bT c h w)(he:ER c h w e a.tmps){t:TypeId}{x:Operand}{i:TypeInfo}(ho:o.op= .box t x)(_hi:P.info? t=some i)(hp:bF P Γ (.box t i.size (aD x)) e h k kp):jt P c h w a o k:=by
 simp only[bF,aE]at hp;exact wo hr (he.ev x) (t:=t) (by simp[execOp,ho,Instr.box,newVar,newRow]) hp
theorem Ek(hr:bT c h w){t:TypeId}{i:TypeInfo}{z:Value}(ho:o.op= .alloc t)(hi:P.info? t=some i)(hz:i.zero=some z)(hp:bF P Γ (.box t i.size (.const (bw 4 z))) e h k kp):jt P c h w a o k:=by
 simp only[bF,aY.fe]at hp;exact wo hr (x:=z) (.pure (ei 4 z)) (t:=t) (by simp[execOp,ho,Instr.alloc,newVar,newRow,iU hi hz]) hp
def fL:List SV->Nat->List SV->List SV
 |l,_,[]=>l
 |l,i,v::vs=>fL (l.set i v) (i+1) vs
theorem fZ: ∀(l:List SV) (i:Nat) (vs:List SV),(fL l i vs).length=l.length
 |l,i,[]=>rfl
 |l,i,v::vs=>by simp[fL,fZ]
theorem ju: ∀(l:List SV) (i:Nat) (vs:List SV) (j:Nat),i+vs.length<=l.length->(fL l i vs)[j]? =if i<=j/\j<i+vs.length then vs[j-i]? else l[j]?
 |l,i,[],j,_=>by simp[fL];omega
 |l,i,v::vs,j,hl=>by
  simp only[List.length_cons]at hl;rw[fL,ju _ _ _ _ (by simp;omega)];simp only[List.length_cons,List.getElem?_set];by_cases h1:j=i
  ·subst h1
   rw[if_neg (by omega),if_pos (by omega)];have:j<l.length:=by omega
   simp[this]
  ·by_cases h2:i+1<=j/\j<i+1+vs.length
   ·rw[if_pos h2,if_pos (by omega)]
    have:j-i=(j-(i+1))+1:=by omega
    rw[this];simp
   ·rw[if_neg h2,if_neg (by omega),if_neg (by omega)]
theorem fy{α:Type _}: ∀ {l:List α} {i:Nat} {v:α} {K:List α->Prop},rE l i v K<->i<l.length/\K (l.set i v)
 | [],i,v,K=>by simp[rE]
 |x::r,0,v,K=>by simp[rE]
 |x::r,i+1,v,K=>by simp[rE,fy]
theorem ff: ∀ {vs l:List SV} {i:Nat} {K:List SV->Prop},kN l i vs K<->(vs=[]\/i+vs.length<=l.length)/\K (fL l i vs)
 | [],l,i,K=>by simp[kN,fL]
 |v::vs,l,i,K=>by
  simp only[kN,fy,ff,fL,List.length_set,List.length_cons];constructor
  ·rintro⟨h1,h2,h3⟩
   refine⟨.inr ?_,h3⟩;rcases h2 with rfl|h2
   ·simp;omega
   ·omega
  ·rintro⟨h1,h3⟩
   rcases h1 with h1|h1
   ·cases h1
   ·exact⟨by omega,.inr (by omega),h3⟩
theorem iV(P:Program)(b o:Nat)(ty:TypeId)(fz:Nat×Nat): ∀(vs:List Value) (i:Nat) (C:Array Value) (w:World),w.heap[b]? =some (.cells C ty fz)->
  (∀ k,k<C.size-> ¬(fz.1<=k/\k<fz.2))->(vs=[]\/o+i+vs.length<=C.size)->(∀ v∈vs,v.oneCell'=true)->
  ∃w' C',(storeCells ⟨b,o,none⟩ vs i).run P w= .ok () w'/\w'.os=w.os/\w'.tape=w.tape/\w'.output=w.output/\w'.heap.size=w.heap.size/\(∀ b',b'≠b->w'.heap[b']? =w.heap[b']?)/\
   w'.heap[b]? =some (.cells C' ty fz)/\C'.size=C.size/\ ∀k,C'[k]? =if o+i<=k/\k<o+i+vs.length then vs[k-(o+i)]? else C[k]?
 | [],i,C,w,hw,_,_,_=>⟨w,C,rfl,rfl,rfl,rfl,rfl,fun _ _=>rfl,hw,rfl,fun k=>by simp;omega⟩
 |v::r,i,C,w,hw,hf,hl,h1=>by
  simp only[List.length_cons]at hl
  have hl:o+i+(r.length+1)<=C.size:=by rcases hl with h|h;· cases h
                                       ·exact h
  have hi:o+i<C.size:=by omega
  have hcell:w.cell? ⟨b,o+i,none⟩=some C[o+i]:=by simp[World.cell?,hw,hi]
  have Xi:w.frozen? ⟨b,o+i,none⟩=false:=by
   have:=hf (o+i) hi;simp only[World.frozen?,hw,Bool.and_eq_false_iff,decide_eq_false_iff_not];omega
  have Tw:b<w.heap.size:=by
   rcases Nat.lt_or_ge b w.heap.size with h|h
   ·exact h
   ·rw[Array.getElem?_eq_none h]at hw;cases hw
  have JX:(w.setCell ⟨b,o+i,none⟩ v).heap[b]? =some (.cells (C.setIfInBounds (o+i) v) ty fz):=by
   simp only[World.setCell,Array.getElem?_modify,if_true,hw,Option.map_some];rfl
  obtain⟨w',C',hrun,e1,e2,e3,e4,e5,e6,e7,e8⟩:=iV P b o ty fz r (i+1) (C.setIfInBounds (o+i) v) (w.setCell ⟨b,o+i,none⟩ v) JX (by simpa using hf) (.inr (by simp;omega)) (fun x hx=>h1 x (by simp[hx]));refine⟨w',C',?_,e1,e2,e3,by rw[e4];simp[World.setCell],fun b' hb'=>(e5 b' hb').trans ?_,e6,by rw[e7];simp,fun k=> ?_⟩
  ·simp only[storeCells,Sem.run_bind,add_eq,run_store P w _ v _ (h1 v (by simp)),hcell,Xi,Bool.false_eq_true,if_false,Result.andThen_ok]
   exact hrun
  ·simp only[World.setCell,Array.getElem?_modify]
   rw[if_neg (fun e=>hb' e.symm)]
  ·rw[e8 k]
   simp only[List.length_cons,Array.getElem?_setIfInBounds];by_cases h2:o+(i+1)<=k/\k<o+(i+1)+r.length
   ·rw[if_pos h2,if_pos (by omega)]
    have:k-(o+i)=(k-(o+(i+1)))+1:=by omega
    rw[this];simp
   ·rw[if_neg h2]
    by_cases h3:o+i=k
    ·subst h3
     rw[if_pos rfl,if_pos hi,if_pos (by omega)];simp
    ·rw[if_neg h3,if_neg (by omega)]
theorem VR.one{v:SV}{x:Value}(hv:VR c h w v x)(h1:v.one=true):x.oneCell'=true:=by
 cases hv with
 |pure hv=>cases hv<;>first|rfl|cases h1
 |ref i g idx sub x hx=>obtain⟨a,rfl⟩:=hx;rfl
 |sl i g sz off len cap x hx=>obtain⟨a,l,c,rfl⟩:=hx;rfl
 |cW i g x hx=>obtain⟨r,rfl⟩:=hx;rfl
 |iface=>rfl
 |agg=>cases h1
 |bn=>cases h1
 |func=>rfl
theorem rH: ∀ {vs:List SV},cZ vs=true-> ∀v∈vs,v.one=true
 | [],_,v,hv=>by cases hv
 |x::r,hall,v,hv=>by
  simp only[cZ,Bool.and_eq_true]at hall;rcases List.mem_cons.1 hv with rfl|hv
  ·exact hall.1
  ·exact rH hall.2 v hv
theorem Na{n:Nat}{l:List (Nat×ai)}{i g sz:Nat}{elems elems':List SV}{sk:Sk}{w':World}(hr:bT c ⟨n,l⟩ w)(ho:ak l i=some (.vec g sz elems sk))
  (e1:w'.os=w.os)(e2:w'.tape=w.tape)(e3:w'.output=w.output)(e4:w'.heap.size=w.heap.size)(e5: ∀b',b'≠c.β i->w'.heap[b']? =w.heap[b']?)(e6:w'.shape? (c.β i)=w.shape? (c.β i)):
  Ext c ⟨n,l⟩ w c ⟨n,bt l i (.vec g sz elems' sk)⟩ w' where
 os:=e1
 tape:=e2
 output:=e3
 size:=by omega
 frame b hb hn:=e5 b (fun e=>hn i _ ho e.symm)
 shape b hb:=by
  by_cases h:b=c.β i
  ·rw[h];exact e6
  ·simp only[World.shape?,e5 b h]
 im _ hb:=hb
 im' _ hb:= .inl hb
 cI:=Nat.le_refl _
 old j o' hj ho':=by
  simp only[Heap.obj,ef]at ho';by_cases h:j=i
  ·subst h
   rw[if_pos rfl,ho]at ho';cases ho'
   exact⟨_,ho,Nat.le_refl _,rfl,fun _=>rfl⟩
  ·rw[if_neg h]at ho'
   exact⟨o',ho',Nat.le_refl _,rfl,fun _=>rfl⟩
 new j o' ho':=by
  simp only[Heap.obj,ef]at ho';by_cases h:j=i
  ·subst h;exact .inr ⟨_,ho,rfl⟩
  ·rw[if_neg h]at ho';exact .inr ⟨o',ho',rfl⟩
theorem Nb{n:Nat}{l:List (Nat×ai)}{i g sz:Nat}{elems elems':List SV}{sk:Sk}{w':World}{C':Array Value}{ty:TypeId}{fz:Nat×Nat}(hr:bT c ⟨n,l⟩ w)(ho:ak l i=some (.vec g sz elems sk))
  (hx:Ext c ⟨n,l⟩ w c ⟨n,bt l i (.vec g sz elems' sk)⟩ w')(e4:w'.heap.size=w.heap.size)(e5: ∀b',b'≠c.β i->w'.heap[b']? =w.heap[b']?)(e6:w'.heap[c.β i]? =some (.cells C' ty fz))
  (hle:elems'.length*sz<=C'.size)(heq:sk.fS=false->elems'.length*sz=C'.size)(hty: ∀t,sk.ty=some t->t=ty)(hc: ∀v∈elems',v.cells.length=sz)(hf: ∀k,k<C'.size-> ¬(fz.1<=k/\k<fz.2))
  (hcell: ∀(p j:Nat) (e v:SV) (x:Value),elems'[p]? =some e->e.cells[j]? =some v->C'[p*sz+j]? =some x->VR c ⟨n,l⟩ w v x):bT c ⟨n,bt l i (.vec g sz elems' sk)⟩ w':=by
 have key: ∀j o',(Heap.mk n (bt l i (.vec g sz elems' sk))).obj j=some o'->(j=i/\o'= .vec g sz elems' sk)\/(j≠i/\ak l j=some o'):=by
  intro j o' ho';simp only[Heap.obj,ef]at ho';by_cases h:j=i
  ·rw[if_pos h,ho]at ho';cases ho';exact .inl ⟨h,rfl⟩
  ·rw[if_neg h]at ho';exact .inr ⟨h,ho'⟩
 have si: ∀j o',(Heap.mk n (bt l i (.vec g sz elems' sk))).obj j=some o'-> ∃vq,ak l j=some vq:=by
  intro j o' ho';rcases key j o' ho' with⟨rfl,_⟩|⟨_,h⟩
  ·exact⟨_,ho⟩
  ·exact⟨_,h⟩
 refine⟨fun j o' ho'=> ?_,fun j o' ho'=> ?_,fun j j' o' p' ho' hp' he=> ?_,fun j o' ho'=> ?_,fun b hb=> ?_,hr.nj hx⟩
 ·obtain⟨vq,h⟩:=si j o' ho';exact hr.lt j vq h
 ·rcases key j o' ho' with⟨rfl,rfl⟩|⟨hj,h⟩
  ·exact .vec g sz elems' sk C' ty fz e6 hle heq hty hc hf fun p j' e v x h1 h2 h3=>(hcell p j' e v x h1 h2 h3).mono hr hx
  ·exact(hr.obj j o' h).mono hr hx (e5 _ fun he=>hj (hr.inj j i _ _ h ho he))
 ·obtain⟨vq,h⟩:=si j o' ho'
  obtain⟨p'',h'⟩:=si j' p' hp';exact hr.inj j j' _ _ h h' he
 ·obtain⟨vq,h⟩:=si j o' ho';exact hr.apart j vq h
 ·rw[e4];exact hr.im b hb
theorem wu{w0 v:SV}{sub:Nat}{K:SV->Prop}(hp:pG w0 v sub K)(hu:v≠ .undef): ∃w1,K w1/\w1.cells=fL w0.cells sub v.cells/\(v.cells=[]\/sub+v.cells.length<=w0.cells.length):=by
 unfold pG at hp;split at hp
 ·obtain⟨_,hp⟩:=dx.1 hp
  obtain⟨h1,hp⟩:=ff.1 hp;exact⟨_,hp,rfl,h1⟩
 ·rename_i hna
  have h0:w0.cells=[w0]:=by cases w0<;>first|rfl|exact absurd rfl (hna _)
  split at hp
  ·exact hp.elim
  ·rename_i ZT
   have h1:v.cells=[v]:=by cases v<;>first|rfl|exact absurd rfl (ZT _)
   cases sub with
   |zero=>exact⟨v,hp,by rw[h0,h1];rfl,.inr (by rw[h0,h1];simp)⟩
   |succ s=>exact hp.elim
theorem El(hr:bT c h w)(he:ER c h w e a.tmps){t:TypeId}{x y:Operand}{i:TypeInfo}(ho:o.op= .store t x y)(hi:P.info? t=some i)(hp:bF P Γ (.store i.size (aD x) (aD y)) e h k kp):jt P c h w a o k:=by
 simp only[bF,aE]at hp;have hx:=he.ev x;have hy:=he.ev y;unfold rF at hp;obtain⟨hu,hp⟩:=dx.1 hp
 replace hp:=ah.1 hp
 obtain⟨hsz,hp⟩:=hp;simp only[Bool.and_eq_true]at hsz;obtain⟨hsz,hone⟩:=hsz;have hsz:=Nat.eq_of_beq_eq_true hsz;obtain⟨n,l⟩:=h;split at hp
 ·rename_i ii g idx sub m hl hev ZU
  cases ZU
  rw[hev]at hx;simp only[bg]at hp;split at hp
  ·rename_i ob bZ
   split at hp
   ·rename_i g' sz elems sk
    replace hp:=ah.1 hp
    obtain⟨hg,hp⟩:=hp;have hg:=Nat.eq_of_beq_eq_true hg;rw[cM]at hp;split at hp
    ·rename_i w0 hw0
     obtain⟨w1,hp,hw1,hfit⟩:=wu hp hu;obtain⟨hidx,hp⟩:=fy.1 hp;rw[cL]at hp;have MQ:=hx.eK (o:= .vec g' sz elems sk) bZ hg;simp only[ai.sz]at MQ;obtain⟨hys,Wz⟩:=pM hy hu;cases hr.obj ii _ bZ with
     |vec _ _ _ _ C ty fz hw hle heq hty hc hf hcell=>
      have Qo:w0.cells.length=sz:=hc w0 (List.mem_of_getElem? hw0);have e0:(idx+1)*sz<=elems.length*sz:=Nat.mul_le_mul_right _ hidx;rw[Nat.succ_mul]at e0
      have Tx:=iV P (c.β ii) (idx*sz+sub) ty fz (a.eval y).cells.toList 0 C w hw hf (by
       rcases hfit with h|h
       ·left;apply List.eq_nil_of_length_eq_zero;simp[hys,h]
       ·right;simp[hys];omega) (fun v hv=>by
       obtain⟨j,hj⟩:=List.mem_iff_getElem?.1 hv;have hj':(a.eval y).cells[j]? =some v:=by simpa using hj
       have hlt:j<((aD y).ev e).cells.length:=by
        rw[<- hys];rcases Nat.lt_or_ge j (a.eval y).cells.size with h|h
        ·exact h
        ·rw[Array.getElem?_eq_none h]at hj';cases hj'
       exact(Wz j _ v (List.getElem?_eq_getElem hlt) hj').one (rH hone _ (List.getElem_mem hlt)))
      obtain⟨w',C',hrun,e1,e2,e3,e4,e5,e6,e7,e8⟩:=Tx;have rI:w'.shape? (c.β ii)=w.shape? (c.β ii):=by simp only[World.shape?,e6,hw,e7]
      have Ty:=Na (elems':=elems.set idx w1) hr bZ e1 e2 e3 e4 e5 rI;refine⟨_,undef,_,c,w',hp,.inr ⟨?_,rfl⟩,Nb hr bZ Ty e4 e5 e6 (by simp;omega) (fun hs=>by simp[e7,heq hs]) hty (fun v hv=> ?_) (by rw[e7];exact hf) (fun p j ee v z uE hv hz=> ?_),Ty,.pure (.bn _ _ rfl fun i v x hv=>by simp at hv)⟩
      ·simp only[execOp,ho,MQ,Instr.storeAt,Instr.sureAddr,storeVar,Sem.run_bind,Sem.run_pure,Result.andThen_ok,dy hi]
       have: ¬(a.eval y).cells.size≠i.size:=by omega
       simp only[this,if_false,hrun,Result.andThen_ok]
      ·rcases List.mem_or_eq_of_mem_set hv with hv|rfl
       ·exact hc v hv
       ·rw[hw1,fZ];exact Qo
      ·rw[e8]at hz
       simp only[Nat.add_zero,Array.length_toList]at hz;rw[List.getElem?_set]at uE;by_cases hpi:idx=p
       ·subst hpi
        rw[if_pos rfl,if_pos hidx]at uE;cases uE
        rw[hw1]at hv;by_cases hvs:((aD y).ev e).cells=[]
        ·rw[hvs]at hv
         have hzero:(a.eval y).cells.size=0:=by rw[hys,hvs];rfl
         rw[if_neg (by omega)]at hz;exact hcell idx j w0 v z hw0 hv hz
        ·have F7:sub+((aD y).ev e).cells.length<=w0.cells.length:=hfit.resolve_left hvs
         rw[ju _ _ _ _ F7]at hv;by_cases hin:sub<=j/\j<sub+((aD y).ev e).cells.length
         ·rw[if_pos hin]at hv
          rw[if_pos (by omega)]at hz;have:idx*sz+j-(idx*sz+sub)=j-sub:=by omega
          rw[this]at hz;exact Wz (j-sub) v z hv (by simpa using hz)
         ·rw[if_neg hin]at hv
          rw[if_neg (by omega)]at hz;exact hcell idx j w0 v z hw0 hv hz
       ·rw[if_neg hpi]at uE
        have ZV:j<sz:=by
         have:=hc ee (List.mem_of_getElem? uE);rcases Nat.lt_or_ge j ee.cells.length with h|h
         ·omega
         ·rw[List.getElem?_eq_none h]at hv;cases hv
        have hout: ¬(idx*sz+sub<=p*sz+j/\p*sz+j<idx*sz+sub+(a.eval y).cells.size):=by
         intro⟨h1,h2⟩
         have F7:sub+((aD y).ev e).cells.length<=sz:=by
          rcases hfit with h|h
          ·rw[h]at hys
           simp only[List.length_nil]at hys;omega
          ·omega
         rcases Nat.lt_or_gt_of_ne hpi with hlt|hlt
         ·have:(idx+1)*sz<=p*sz:=Nat.mul_le_mul_right _ hlt
          rw[Nat.succ_mul]at this;omega
         ·have:(p+1)*sz<=idx*sz:=Nat.mul_le_mul_right _ hlt
          rw[Nat.succ_mul]at this;omega
        rw[if_neg hout]at hz;exact hcell p j ee v z uE hv hz
    ·exact hp.elim
   ·exact hp.elim
  ·exact hp.elim
 ·exact hp.elim
end
end
end Ab
