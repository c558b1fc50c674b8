/- Parts of the proof of PCatalogBack, one behind the other, with short names. -/
import Derived.Test.YtegmnocpkgpgeaaGreatDoorZ6
import Derived.Deep.AppendSrc
set_option linter.unusedVariables false
set_option linter.unusedSimpArgs false
namespace Ab
open Go
section
section
variable {P:Program} {Γ:bR} {c:Cx} {h:Heap} {w:World} {e:Env} {a:Act} {o:Oper} {k kp:SV->Heap->Prop}
theorem F8(off:Nat): ∀(vs:List Value) (n:Nat) (C:Array Value),
  ((vs.zipIdx n).foldl (fun cs (p:Value×Nat)=>cs.setIfInBounds (off+p.2) p.1) C).size=C.size/\
  ∀k,((vs.zipIdx n).foldl (fun cs (p:Value×Nat)=>cs.setIfInBounds (off+p.2) p.1) C)[k]? =if off+n<=k/\k<off+n+vs.length/\k<C.size then vs[k-(off+n)]? else C[k]?
 | [],n,C=>⟨rfl,fun k=>by simp;omega⟩
 |v::vs,n,C=>by
  simp only[List.zipIdx_cons,List.foldl_cons];obtain⟨h1,h2⟩:=F8 off vs (n+1) (C.setIfInBounds (off+n) v);refine⟨by rw[h1];simp,fun k=> ?_⟩;rw[h2 k];simp only[Array.size_setIfInBounds,List.length_cons,Array.getElem?_setIfInBounds];by_cases hk:off+n=k
  ·subst hk
   by_cases hs:off+n<C.size
   ·rw[if_neg (by omega),if_pos rfl,if_pos hs,if_pos (by omega)];simp
   ·rw[if_neg (by omega),if_pos rfl,if_neg hs,if_neg (by omega)]
    rw[Array.getElem?_eq_none (by omega)]
  ·by_cases hin:off+(n+1)<=k/\k<off+(n+1)+vs.length/\k<C.size
   ·rw[if_pos hin,if_pos (by omega)]
    have:k-(off+n)=(k-(off+(n+1)))+1:=by omega
    rw[this];simp
   ·rw[if_neg hin,if_neg hk,if_neg (by omega)]
theorem y6(place:Nat->Option (Nat×Nat))(cells:Array Value)(i off sz:Nat)(v:Value)(rest:List (Nat×Value))(hp:place i=some (off,sz))(hs:v.cells.size=sz)(hle:off+v.cells.size<=cells.size):
  ∃C',Instr.fill place cells ((i,v)::rest)=Instr.fill place C' rest/\C'.size=cells.size/\ ∀k,C'[k]? =if off<=k/\k<off+sz then v.cells[k-off]? else cells[k]? :=by
 obtain⟨h1,h2⟩:=F8 off v.cells.toList 0 cells;refine⟨v.cells.zipIdx.foldl (fun cs (p:Value×Nat)=>cs.setIfInBounds (off+p.2) p.1) cells,?_,?_,fun k=> ?_⟩
 ·have: ¬(off+v.cells.size>cells.size):=by omega
  simp[Instr.fill,hp,hs,Nat.not_lt.2 (hs▸hle)]
 ·rw[<- Array.foldl_toList,Array.toList_zipIdx];exact h1
 ·rw[<- Array.foldl_toList,Array.toList_zipIdx,h2 k]
  simp only[Nat.add_zero,Array.length_toList,Array.getElem?_toList];by_cases hin:off<=k/\k<off+sz
  ·rw[if_pos (by omega),if_pos hin]
  ·rw[if_neg (by omega),if_neg hin]
def CR(c:Cx)(h:Heap)(w:World)(cs:List SV)(C:Array Value):Prop:=C.size=cs.length/\ ∀(i:Nat) (v:SV) (x:Value),cs[i]? =some v->C[i]? =some x->VR c h w v x
theorem qR(he:ER c h w e a.tmps)(place:Nat->Option (Nat×Nat)){K:List SV->Prop}: ∀(ps:List (Nat×Operand)) (l:List (Nat×Nat×aY)) (cs:List SV) (C:Array Value),
  ps.mapM (fun(j,x)=>(place j).map fun(off,sz)=>(off,sz,aD x))=some l->CR c h w cs C->fY e l cs K->
  ∃cs' C',K cs'/\Instr.fill place C (ps.map fun(i,x)=>(i,a.eval x))=some C'/\CR c h w cs' C'
 | [],l,cs,C,hl,hc,hp=>by
   simp only[List.mapM_nil,Option.pure_def,Option.some.injEq]at hl;subst hl;exact⟨cs,C,hp,rfl,hc⟩
 |(j,x)::ps,l,cs,C,hl,hc,hp=>by
  simp only[List.mapM_cons,Option.bind_eq_bind,Option.pure_def,Option.bind_eq_some_iff,Option.map_eq_some_iff,Option.some.injEq]at hl;obtain⟨y,⟨⟨off,sz⟩,Av,rfl⟩,l',hl',rfl⟩:=hl;simp only[fY,aE]at hp;obtain⟨hu,hp⟩:=dx.1 hp
  replace hp:=ah.1 hp
  obtain⟨hsz,hp⟩:=hp;simp only[Bool.and_eq_true]at hsz;obtain⟨hsz,hlen⟩:=hsz;have hsz:=Nat.eq_of_beq_eq_true hsz;have hlen:=Nat.le_of_ble_eq_true hlen;obtain⟨hfit,hp⟩:=ff.1 hp;obtain⟨hy1,Qn⟩:=pM (he.ev x) hu;obtain⟨C1,h1,h2,h3⟩:=y6 place C j off sz (a.eval x) (ps.map fun(i,x)=>(i,a.eval x)) Av (by omega) (by rw[hc.1];omega)
  obtain⟨cs',C',hk,hf,uF⟩:=qR he place ps l' _ C1 hl' ⟨by rw[h2,fZ];exact hc.1,fun i v z hv hz=>by
   rw[h3]at hz;by_cases yx:((aD x).ev e).cells=[]
   ·rw[yx]at hv
    have:sz=0:=by rw[<- hsz,yx];rfl
    rw[if_neg (by omega)]at hz;exact hc.2 i v z hv hz
   ·have F7:=hfit.resolve_left yx
    rw[ju _ _ _ _ F7]at hv;by_cases hin:off<=i/\i<off+sz
    ·rw[if_pos (by omega)]at hv
     rw[if_pos hin]at hz;exact Qn _ v z hv hz
    ·rw[if_neg (by omega)]at hv
     rw[if_neg hin]at hz;exact hc.2 i v z hv hz⟩ hp
  exact⟨cs',C',hk,by rw[List.map_cons,h1];exact hf,uF⟩
theorem kn(v:SV): ∀(n:Nat) (K:List SV->Prop),BJ n v K=K (List.replicate n v)
 |0,K=>rfl
 |n+1,K=>by unfold BJ;rw[kn v n];rfl
theorem Em(fs:Array Field)(hall:fs.toList.all (fun f=>(P.info? f.type).isSome)=true):
  (fs.mapM fun f=>(do pure (f.offset,<-Go.sizeOf f.type):Sem (Nat×Nat))).run P w= .ok (fs.map fun f=>(f.offset,P.cellsOf f.type)) w:=by
 rw[Array.mapM_eq_mapM_toList]
 have: ∀l:List Field,l.all (fun f=>(P.info? f.type).isSome)=true->(l.mapM fun f=>(do pure (f.offset,<-Go.sizeOf f.type):Sem (Nat×Nat))).run P w= .ok (l.map fun f=>(f.offset,P.cellsOf f.type)) w:=by
  intro l
  induction l with
  |nil=>intro _;simp
  |cons f l ih=>
   intro hl;simp only[List.all_cons,Bool.and_eq_true]at hl;obtain⟨i,hi⟩:=Option.isSome_iff_exists.1 hl.1;have hc:P.cellsOf f.type=i.size:=by simp[Program.cellsOf,hi]
   simp only[List.mapM_cons,Sem.run_bind,dy hi,Result.andThen_ok,Sem.run_pure,ih hl.2,hc,List.map_cons]
 rw[Sem.run_map,this fs.toList hall];simp only[Result.andThen_ok,<-Array.toList_map,Array.toArray_toList]
theorem En(he:ER c h w e a.tmps){t:TypeId}{ps:Array (Nat×Operand)}{fs:Array Field}{i:TypeInfo}{z:Value}{l:List (Nat×Nat×aY)}(ho:o.op= .build t ps)(hu:P.underlying t=some (.struct fs))
  (hi:P.info? t=some i)(hz:i.zero=some z)(hk:(bw 4 z).known=true)(hall:fs.toList.all (fun f=>(P.info? f.type).isSome)=true)
  (hl:ps.toList.mapM (fun(j,x)=>(fs[j]?).bind fun f=>(P.info? f.type).map fun g=>(f.offset,g.size,aD x))=some l)
  (hp:bF P Γ (.build (bw 4 z).cells l) e h k kp):dW P c h w a o k:=by
 simp only[bF]at hp;have Eo:VR c h w (bw 4 z) z:= .pure (ei 4 z);obtain⟨Xj,ZW⟩:=pM Eo (fun hh=>by rw[hh]at hk;cases hk)
 have hl':ps.toList.mapM (fun(j,x)=>(((fs.map fun f=>(f.offset,P.cellsOf f.type)):Array (Nat×Nat))[j]?).map fun(off,sz)=>(off,sz,aD x))=some l:=by
  rw[<- hl];congr 1
  funext ⟨j,x⟩;simp only[Array.getElem?_map];cases hf:fs[j]? with
  |none=>rfl
  |some f=>
   have hmem:f∈fs.toList:=by
    rw[<- Array.getElem?_toList]at hf;exact List.mem_of_getElem? hf
   obtain⟨i,hi⟩:=Option.isSome_iff_exists.1 (List.all_eq_true.1 hall f hmem);simp[hi,Program.cellsOf]
 obtain⟨cs',C',hk',hf,uF⟩:=qR he (fun j=>(fs.map fun f=>(f.offset,P.cellsOf f.type))[j]?) ps.toList l (bw 4 z).cells z.cells hl' ⟨Xj,ZW⟩ hp;refine .of _ (.agg C') hk' ?_ (.agg _ _ uF.1 uF.2);have Av:(ps.map fun(i,x)=>(i,a.eval x)).toList=ps.toList.map fun(i,x)=>(i,a.eval x):=by simp
 simp only[execOp,ho,Instr.build,Sem.run_bind,iU hi hz,Result.andThen_ok,run_underlying hu,Em fs hall,Av,hf];rfl
def LR(c:Cx)(h:Heap)(w:World)(sz:Nat)(elems:List SV)(C:Array Value):Prop:=
 C.size=elems.length*sz/\(∀ v∈elems,v.cells.length=sz)/\ ∀(i j:Nat) (e v:SV) (x:Value),elems[i]? =some e->e.cells[j]? =some v->C[i*sz+j]? =some x->VR c h w v x
theorem j5(he:ER c h w e a.tmps)(sz:Nat){K:List SV->Prop}: ∀(ps:List (Nat×Operand)) (cs:List SV) (C:Array Value),
  LR c h w sz cs C->fu sz e (ps.map fun(j,x)=>(j,aD x)) cs K->
  ∃cs' C',K cs'/\Instr.fill (fun i=>some (i*sz,sz)) C (ps.map fun(i,x)=>(i,a.eval x))=some C'/\LR c h w sz cs' C'/\cs'.length=cs.length
 | [],cs,C,hc,hp=>⟨cs,C,hp,rfl,hc,rfl⟩
 |(p,x)::ps,cs,C,hc,hp=>by
  simp only[List.map_cons,fu,aE]at hp;obtain⟨hu,hp⟩:=dx.1 hp
  replace hp:=ah.1 hp
  obtain⟨hsz,hp⟩:=hp;have hsz:=Nat.eq_of_beq_eq_true hsz;obtain⟨hidx,hp⟩:=fy.1 hp;obtain⟨hy1,Qn⟩:=pM (he.ev x) hu;have e0:(p+1)*sz<=cs.length*sz:=Nat.mul_le_mul_right _ hidx;rw[Nat.succ_mul]at e0;obtain⟨C1,h1,h2,h3⟩:=y6 (fun i=>some (i*sz,sz)) C p (p*sz) sz (a.eval x) (ps.map fun(i,x)=>(i,a.eval x)) rfl (by omega) (by rw[hc.1];omega)
  obtain⟨cs',C',hk,hf,uF,hlen⟩:=j5 he sz ps (cs.set p ((aD x).ev e)) C1 ⟨by rw[h2,hc.1];simp,fun v hv=>by
   rcases List.mem_or_eq_of_mem_set hv with hv|rfl
   ·exact hc.2.1 v hv
   ·exact hsz,fun i j ee v z hee hv hz=>by
   rw[h3]at hz;rw[List.getElem?_set]at hee;by_cases hpi:p=i
   ·subst hpi
    rw[if_pos rfl,if_pos hidx]at hee;cases hee
    have hj:j<sz:=by
     rw[<- hsz];rcases Nat.lt_or_ge j ((aD x).ev e).cells.length with h|h
     ·exact h
     ·rw[List.getElem?_eq_none h]at hv;cases hv
    rw[if_pos (by omega)]at hz;have:p*sz+j-p*sz=j:=by omega
    rw[this]at hz;exact Qn j v z hv hz
   ·rw[if_neg hpi]at hee
    have hj:j<sz:=by
     rw[<- hc.2.1 ee (List.mem_of_getElem? hee)];rcases Nat.lt_or_ge j ee.cells.length with h|h
     ·exact h
     ·rw[List.getElem?_eq_none h]at hv;cases hv
    have hout: ¬(p*sz<=i*sz+j/\i*sz+j<p*sz+sz):=by
     intro⟨q1,q2⟩;rcases Nat.lt_or_gt_of_ne hpi with hlt|hlt
     ·have:(p+1)*sz<=i*sz:=Nat.mul_le_mul_right _ hlt
      rw[Nat.succ_mul]at this;omega
     ·have:(i+1)*sz<=p*sz:=Nat.mul_le_mul_right _ hlt
      rw[Nat.succ_mul]at this;omega
    rw[if_neg hout]at hz;exact hc.2.2 i j ee v z hee hv hz⟩ hp
  exact⟨cs',C',hk,by rw[List.map_cons,h1];exact hf,uF,by rw[hlen];simp⟩
theorem sj{z:Value}{sz:Nat}(hz:VR c h w (bw 4 z) z)(hk:(bw 4 z).known=true)(hs:(bw 4 z).cells.length=sz)(n:Nat):
  LR c h w sz (List.replicate n (bw 4 z)) ((Array.range (n*sz)).map (z.cells[· %z.cells.size]!)):=by
 obtain⟨h1,h2⟩:=pM hz (fun hh=>by rw[hh]at hk;cases hk);refine⟨by simp,fun v hv=>by rw[(List.mem_replicate.1 hv).2];exact hs,fun i j ee v x he hv hx=> ?_⟩
 obtain⟨hi,rfl⟩:i<n/\bw 4 z=ee:=by
  rw[List.getElem?_replicate]at he;split at he
  ·rename_i h;exact⟨h,Option.some.inj he⟩
  ·cases he
 have hj:j<sz:=by
  rw[<- hs];rcases Nat.lt_or_ge j (bw 4 z).cells.length with h|h
  ·exact h
  ·rw[List.getElem?_eq_none h]at hv;cases hv
 have hzs:z.cells.size=sz:=h1.trans hs;have e0:(i+1)*sz<=n*sz:=Nat.mul_le_mul_right _ hi;rw[Nat.succ_mul]at e0;have hmod:(i*sz+j)%z.cells.size=j:=by rw[hzs,Nat.mul_comm,Nat.mul_add_mod,Nat.mod_eq_of_lt hj]
 have ZX:j<z.cells.size:=by omega
 simp only[Array.getElem?_map,Array.getElem?_range]at hx;rw[if_pos (by omega)]at hx;simp only[Option.map_some,hmod,Option.some.injEq]at hx;refine h2 j v x hv ?_;rw[<- hx];simp[ZX]
theorem Ep{α:Type}(f:Nat->α):(Array.range 0).map f= #[]:=Array.eq_empty_of_size_eq_zero (by simp)
theorem BW(hr:bT c h w){sz len cap:Nat}{elems:List SV}{C:Array Value}{el:TypeId}(hlr:LR c h w sz elems C)(hlen:elems.length=cap)(hlc:len<=cap)
  (hrun:(execOp a.eval o).run P w= .ok (.value (.slice (some ⟨w.heap.size,0,none⟩) len cap)) (w.alloc (.cells C el)))
  (hp:match h with|⟨m,l⟩=>k (.sl m 0 sz 0 len (some cap)) ⟨m+1,(m,.vec 0 sz elems ⟨false,some el⟩)::l⟩):jt P c h w a o k:=by
 obtain⟨n,l⟩:=h;exact⟨_,_,_,_,_,hp,.inl hrun,wm hr sz elems C el hlr.1.symm hlr.2.1 hlr.2.2,eE hr _ _,JV (dM _ _) hlc (by rw[hlr.1,hlen];exact Nat.le_refl _)⟩
theorem pN{P:Program}{w:World}{a:Act}{o:Oper}{t el:TypeId}{n:Nat}{ps:Array (Nat×Operand)}{i:TypeInfo}{z:Value}{C':Array Value}(ho:o.op= .buildSlice t n ps)(hu:P.underlying t=some (.slice el))
  (hi:P.info? el=some i)(hz:i.zero=some z)(hn:n*i.size<=16777216)
  (hf:Instr.fill (fun j=>some (j*i.size,i.size)) ((Array.range (n*i.size)).map (z.cells[· %z.cells.size]!)) (ps.toList.map fun(j,x)=>(j,a.eval x))=some C'):
  (execOp a.eval o).run P w= .ok (.value (.slice (some ⟨w.heap.size,0,none⟩) n n)) (w.alloc (.cells C' el)):=by
 have Av:(ps.map fun(i,x)=>(i,a.eval x)).toList=ps.toList.map fun(i,x)=>(i,a.eval x):=by simp
 simp only[execOp,ho,Instr.buildSlice,Sem.run_bind,run_underlying hu,Result.andThen_ok,dy hi];rw[if_neg (by omega)];by_cases h0:n*i.size=0
 ·rw[if_pos h0]
  rw[h0]at hf;simp only[Ep]at hf;simp only[Sem.run_bind,Sem.run_pure,Result.andThen_ok,h0,Ep,Av,hf];simp[newRow]
 ·rw[if_neg h0]
  simp only[Sem.run_bind,iU hi hz,Sem.run_pure,Result.andThen_ok,Av,hf];simp[newRow]
theorem u6(hr:bT c h w)(he:ER c h w e a.tmps){t el:TypeId}{n:Nat}{ps:Array (Nat×Operand)}{i:TypeInfo}{z:Value}(ho:o.op= .buildSlice t n ps)(hu:P.underlying t=some (.slice el))
  (hi:P.info? el=some i)(hz:i.zero=some z)(hn:n*i.size<=16777216)(hs:(bw 4 z).cells.length=i.size)(hk:(bw 4 z).known=true)
  (hp:bF P Γ (.buildSlice el i.size (bw 4 z) n (ps.toList.map fun(j,x)=>(j,aD x))) e h k kp):jt P c h w a o k:=by
 simp only[bF,kn]at hp;have Eo:VR c h w (bw 4 z) z:= .pure (ei 4 z);obtain⟨cs',C',hk',hf,hlr,hlen⟩:=j5 he i.size ps.toList _ _ (sj Eo hk hs n) hp;refine BW hr hlr (len:=n) (cap:=n) (by simpa using hlen) (Nat.le_refl _) (el:=el) (pN ho hu hi hz hn hf) hk'
theorem wrap_i64{n:Int}(h0: -9223372036854775808<=n)(h1:n<=9223372036854775807):IntKind.i64.wrap n=n:=
 IntWalk.i64_in n ⟨h0,h1⟩
theorem wv(hr:bT c h w)(he:ER c h w e a.tmps){t el:TypeId}{x y:Operand}{i:TypeInfo}{z:Value}(ho:o.op= .makeSlice t x y)(hu:P.underlying t=some (.slice el))
  (hi:P.info? el=some i)(hz:i.zero=some z)(hs:(bw 4 z).cells.length=i.size)(hk:(bw 4 z).known=true)
  (hp:bF P Γ (.makeSlice el i.size i.bytes (bw 4 z) (aD x) (aD y)) e h k kp):jt P c h w a o k:=by
 simp only[bF,aE]at hp;have hx:=he.ev x;have hy:=he.ev y;split at hp
 ·rename_i k1 n k2 m h1 h2
  rw[h1]at hx;rw[h2]at hy
  replace hp:=ah.1 hp
  obtain⟨hb,hp⟩:=hp;simp only[Bool.and_eq_true,decide_eq_true_eq]at hb;obtain⟨⟨⟨b0,b1⟩,b2⟩,b3⟩:=hb;have Eo:VR c h w (bw 4 z) z:= .pure (ei 4 z);refine BW hr (sj Eo hk hs m.toNat) (len:=n.toNat) (cap:=m.toNat) (by simp) (by omega) (el:=el) ?_ hp;have hwn:=wrap_i64 (n:=n) (by omega) (by omega);have ZY:=wrap_i64 (n:=m) (by omega) (by omega);have Tz: ¬(m<0):=by omega
  have Xk: ¬((i.bytes:Int)*m>2^48):=by
   have:(2:Int)^48=281474976710656:=by decide
   omega
  have aJ:(decide (m<0)||decide ((i.bytes:Int)*m>2^48)||decide (n<0)||decide (n>m))=false:=by
   simp only[Bool.or_eq_false_iff,decide_eq_false_iff_not];exact⟨⟨⟨Tz,Xk⟩,by omega⟩,by omega⟩
  simp only[execOp,ho,Instr.makeSlice,hx.bQ,hy.bQ,asInt,asIntOf,Sem.run_bind,Sem.run_pure,run_underlying hu,Result.andThen_ok,typeInfo,hi,run_program,hwn,ZY];rw[if_neg (by rw[aJ];decide)];simp only[Sem.run_bind,run_askRoom,dy hi,Result.andThen_ok];by_cases h0:m.toNat*i.size=0
  ·rw[if_pos h0]
   simp[newRow,h0,Ep]
  ·rw[if_neg h0]
   simp[iU hi hz,newRow]
 ·exact hp.elim
end
end
section
section
variable {P:Program} {c:Cx} {h:Heap} {w:World} {e:Env} {a:Act} {o:Oper} {k kp:SV->Heap->Prop}
theorem nG(get:Nat->SV): ∀(n j:Nat) (K:List SV->Prop),vX get n j K=K ((List.range' j n).map get)
 |0,_,_=>rfl
 |n+1,j,K=>by unfold vX;rw[nG get n];rfl
theorem qo: ∀(s:List UInt8) (K:List SV->Prop),HC s K=K (s.map fun b=> .int .u8 b.toNat)
 | [],_=>rfl
 |b::r,K=>by unfold HC;rw[qo r];rfl
theorem sn: ∀(l m:List SV) (K:List SV->Prop),JN l m K=K (l++m)
 | [],_,_=>rfl
 |v::r,m,K=>by unfold JN;rw[sn r];rfl
def LW(c:Cx)(h:Heap)(w:World)(sz:Nat)(elems:List SV)(vals:List Value):Prop:=
 vals.length=elems.length*sz/\(∀ v∈elems,v.cells.length=sz)/\ ∀(i j:Nat) (e v:SV) (x:Value),elems[i]? =some e->e.cells[j]? =some v->vals[i*sz+j]? =some x->VR c h w v x
theorem eT{α:Type}{l:List α}{i:Nat}{v:α}(h:l[i]? =some v):i<l.length:=by
 rcases Nat.lt_or_ge i l.length with h'|h'
 ·exact h'
 ·rw[List.getElem?_eq_none h']at h;cases h
theorem rJ{sz i j n:Nat}(hi:i<n)(hj:j<sz):i*sz+j<n*sz:=by
 have:(i+1)*sz<=n*sz:=Nat.mul_le_mul_right _ hi;rw[Nat.succ_mul]at this;omega
theorem LW.append{sz:Nat}{es fs:List SV}{vs us:List Value}(h1:LW c h w sz es vs)(h2:LW c h w sz fs us):LW c h w sz (es++fs) (vs++us):=by
 refine⟨by rw[List.length_append,List.length_append,h1.1,h2.1,Nat.add_mul],fun v hv=> ?_,fun i j e v x he hv hx=> ?_⟩
 ·rcases List.mem_append.1 hv with hv|hv
  ·exact h1.2.1 v hv
  ·exact h2.2.1 v hv
 ·have hj:j<sz:=by
   have hlen:e.cells.length=sz:=by
    rcases List.mem_append.1 (List.mem_of_getElem? he)with hm|hm
    ·exact h1.2.1 e hm
    ·exact h2.2.1 e hm
   rw[<- hlen];exact eT hv
  rw[List.getElem?_append]at he hx;by_cases hi:i<es.length
  ·rw[if_pos hi]at he
   rw[if_pos (by rw[h1.1];exact rJ hi hj)]at hx;exact h1.2.2 i j e v x he hv hx
  ·rw[if_neg hi]at he
   have hge:es.length*sz<=i*sz:=Nat.mul_le_mul_right _ (Nat.le_of_not_lt hi);rw[if_neg (by rw[h1.1];omega)]at hx;refine h2.2.2 (i-es.length) j e v x he hv ?_;rw[<- hx,h1.1,Nat.sub_mul];congr 1
   omega
theorem LW.one{sz:Nat}{xs:List SV}{news:List Value}(hl:LW c h w sz xs news)(h1:allOnes xs=true): ∀u∈news,u.oneCell'=true:=by
 intro u hu;obtain⟨p,hp⟩:=List.mem_iff_getElem?.1 hu;have hlt:=eT hp;rw[hl.1]at hlt
 have hsz:0<sz:=by
  rcases Nat.eq_zero_or_pos sz with h0|h0
  ·subst h0;omega
  ·exact h0
 have hi:p/sz<xs.length:=(Nat.div_lt_iff_lt_mul hsz).2 hlt;have he:xs[p/sz]? =some xs[p/sz]:=List.getElem?_eq_getElem hi;have hmem:=List.getElem_mem hi;have hj:p%sz<xs[p/sz].cells.length:=by rw[hl.2.1 _ hmem];exact Nat.mod_lt _ hsz
 have hv:xs[p/sz].cells[p%sz]? =some xs[p/sz].cells[p%sz]:=List.getElem?_eq_getElem hj;have uE:p/sz*sz+p%sz=p:=by rw[Nat.mul_comm];exact Nat.div_add_mod p sz
 refine(hl.2.2 (p/sz) (p%sz) _ _ u he hv (by rw[uE];exact hp)).one (rH ?_ _ (List.getElem_mem hj))
 have key: ∀ {l:List SV},allOnes l=true-> ∀v∈l,cZ v.cells=true:=by
  intro l
  induction l with
  |nil=>intro _ v hv;cases hv
  |cons x r ih=>
   intro hall v hv;simp only[allOnes,Bool.and_eq_true]at hall;rcases List.mem_cons.1 hv with rfl|hv
   ·exact hall.1
   ·exact ih hall.2 v hv
 exact key h1 _ hmem
theorem y7(hr:bT c h w){i g sz:Nat}{elems:List SV}{sk:Sk}(ho:h.obj i=some (.vec g sz elems sk)){off len:Nat}(hle:off+len<=elems.length):
  ∃vals,LW c h w sz ((elems.drop off).take len) vals/\vals.length=len*sz/\ ∀j u,vals[j]? =some u->w.cell? ((⟨c.β i,off*sz,none⟩:Addr).add j)=some u:=by
 cases hr.obj i _ ho with
 |vec _ _ _ _ C ty fz hw yz heq hty hc hf hcell=>
  have e1:(off+len)*sz<=elems.length*sz:=Nat.mul_le_mul_right _ hle;rw[Nat.add_mul]at e1;have hlen:((elems.drop off).take len).length=len:=by simp;omega
  have hvl:((C.toList.drop (off*sz)).take (len*sz)).length=len*sz:=by simp;omega
  refine⟨(C.toList.drop (off*sz)).take (len*sz),⟨by rw[hlen,hvl],fun v hv=>hc v (List.mem_of_mem_drop (List.mem_of_mem_take hv)),fun p j e v x he hv hx=> ?_⟩,hvl,fun j u hu=> ?_⟩
  ·have hp:p<len:=by have:=eT he;omega
   rw[List.getElem?_take,if_pos hp,List.getElem?_drop]at he;have ZZ:=eT hx;rw[List.getElem?_take,if_pos (by omega),List.getElem?_drop]at hx;refine hcell (off+p) j e v x he hv ?_;rw[Nat.add_mul,Nat.add_assoc,<-Array.getElem?_toList];exact hx
  ·have Z0:=eT hu
   rw[List.getElem?_take,if_pos (by omega),List.getElem?_drop,Array.getElem?_toList]at hu;rw[add_eq];simp only[World.cell?,hw];exact hu
theorem HR{tx:TypeId}(hk:(∃ e',P.underlying tx=some (.slice e'))\/P.underlying tx=some .string)(s:ByteArray):Src P 1 tx (.string s) s.size (byteCells s) w:=
 ⟨hk,fun _=>rfl,firstCells_string s w,firstCells_string s w.drew,by rw[byteCells_length,Nat.mul_one],fun u hu=>by
  obtain⟨_,_,rfl⟩:=List.mem_map.1 hu;rfl⟩
theorem wz(hr:bT c h w){x:SV}{y:Value}(hv:VR c h w x y){sz:Nat}{K:List SV->Prop}(hp:mN h sz x K){tx:TypeId}(hk:(∃ e',P.underlying tx=some (.slice e'))\/P.underlying tx=some .string):
  ∃xs news,K xs/\LW c h w sz xs news/\((∀ u∈news,u.oneCell'=true)->Src P sz tx y xs.length news w)/\(∀ u,y= .string u->sz=1/\news=byteCells u):=by
 unfold mN at hp
 have Er: ∀(ad:Addr) (n cc:Nat) (xs:List SV) (news:List Value),y= .slice (some ad) n cc->xs.length=n->LW c h w sz xs news->(∀ j u,news[j]? =some u->w.cell? (ad.add j)=some u)->
   ((∀ u∈news,u.oneCell'=true)->Src P sz tx y xs.length news w):=by
  intro ad n cc xs news hy hn hl hcell h1;subst hy;subst hn
  exact⟨hk,fun _=>rfl,run_firstCells_some w sz _ ad _ cc news hl.1 hcell,run_firstCells_some w.drew sz _ ad _ cc news hl.1 (by simpa using hcell),hl.1,h1⟩
 have hnone:LW c h w sz [] []:=⟨by simp,fun v hv=>by simp at hv,fun i j e v x he=>by simp at he⟩
 have hzero: ∀(ad:Option Addr) (cc:Nat),y= .slice ad 0 cc->((∀ u∈([]:List Value),u.oneCell'=true)->Src P sz tx y ([]:List SV).length [] w):=by
  intro ad cc hy h1;cases ad with
  |none=>
   subst hy;exact⟨hk,fun _=>rfl,run_firstCells_none w sz 0 0 cc,run_firstCells_none w.drew sz 0 0 cc,by simp,h1⟩
  |some ad=>exact Er ad 0 cc [] [] hy rfl hnone (fun j u hu=>by simp at hu) h1
 split at hp
 ·have hy:=hv.cF
  exact⟨[],[],hp,hnone,hzero none 0 hy,fun u hu=>by rw[hy]at hu;cases hu⟩
 ·rename_i s
  replace hp:=ah.1 hp
  obtain⟨hsz,hp⟩:=hp;have hsz:=Nat.eq_of_beq_eq_true hsz;subst hsz;rw[qo]at hp;have hy:=hv.eJ;refine⟨_,byteCells ⟨s.toArray⟩,hp,⟨by simp[byteCells],fun v hv=> ?_,fun i j e v x he hv hx=> ?_⟩,fun h1=> ?_,fun u hu=>⟨rfl,by rw[hy]at hu;cases hu;rfl⟩⟩
  ·obtain⟨b,_,rfl⟩:=List.mem_map.1 hv;rfl
  ·rw[List.getElem?_map]at he
   cases hb:s[i]? with
   |none=>rw[hb]at he;cases he
   |some b=>
    rw[hb]at he;simp only[Option.map_some,Option.some.injEq]at he;subst he;cases j with
    |zero=>
     simp only[SV.cells,List.getElem?_cons_zero,Option.some.injEq]at hv;subst hv;simp only[byteCells,Nat.mul_one,Nat.add_zero,List.getElem?_map,hb,Option.map_some,Option.some.injEq]at hx;subst hx;exact .int
    |succ j=>simp[SV.cells]at hv
  ·have hs:=HR (P:=P) (w:=w) hk ⟨s.toArray⟩
   rw[hy];have e1:(s.map fun b=>SV.int .u8 b.toNat).length=(⟨s.toArray⟩:ByteArray).size:=by simp[ByteArray.size]
   rw[e1];exact hs
 ·rename_i sz' n get
  replace hp:=ah.1 hp
  obtain⟨hsz,hp⟩:=hp;have hsz:=Nat.eq_of_beq_eq_true hsz;subst hsz;rw[nG]at hp;obtain⟨ad,cap,hy,hnc,jn⟩:=hv.oh;rcases jn with rfl|⟨b,off,C,ty,fz,rfl,hb,hw,hn,hc,hcell⟩
  ·exact⟨_,[],hp,hnone,hzero ad cap hy,fun u hu=>by rw[hy]at hu;cases hu⟩
  ·have hvl:((C.toList.drop off).take (n*sz')).length=n*sz':=by simp;omega
   have Pa: ∀(p:Nat) (e:SV),((List.range' 0 n).map get)[p]? =some e->p<n/\e=get p:=by
    intro p e he;rw[List.getElem?_map]at he
    have hp':p<n:=by
     rcases Nat.lt_or_ge p n with h|h
     ·exact h
     ·rw[List.getElem?_eq_none (by simpa using h)]at he;cases he
    rw[List.getElem?_range' hp']at he;simp at he;exact⟨hp',he.symm⟩
   have hL:LW c h w sz' ((List.range' 0 n).map get) ((C.toList.drop off).take (n*sz')):=by
    refine⟨by rw[hvl];simp,fun v hv=> ?_,fun p j e v x he hv hx=> ?_⟩
    ·obtain⟨p,hp⟩:=List.mem_iff_getElem?.1 hv
     obtain⟨h1,rfl⟩:=Pa p v hp;exact hc p h1
    ·obtain⟨h1,rfl⟩:=Pa p e he
     have ZZ:=eT hx;rw[List.getElem?_take,if_pos (by omega),List.getElem?_drop,Array.getElem?_toList]at hx;exact .pure (hcell p j v x h1 hv (by rw[Nat.add_assoc];exact hx))
   refine⟨_,_,hp,hL,Er _ _ _ _ _ hy (by simp) hL fun j u hu=> ?_,fun u hu=>by rw[hy]at hu;cases hu⟩;have Z0:=eT hu;rw[List.getElem?_take,if_pos (by omega),List.getElem?_drop,Array.getElem?_toList]at hu;rw[add_eq];simp only[World.cell?,hw];exact hu
 ·rename_i i g sz' off len cap
  replace hp:=ah.1 hp
  obtain⟨hsz,hp⟩:=hp;have hsz:=Nat.eq_of_beq_eq_true hsz;subst hsz;obtain⟨n,l⟩:=h;simp only[bg]at hp;split at hp
  ·rename_i ob bZ
   split at hp
   ·rename_i g' iK elems sk
    replace hp:=ah.1 hp
    obtain⟨hg,hp⟩:=hp;have hg:=Nat.eq_of_beq_eq_true hg;obtain⟨hle,hp⟩:=dQ.1 hp;obtain⟨TA,hp⟩:=cU.1 hp;simp only[List.length_drop]at TA;obtain⟨iz,ad,cc,hy,hlc,_,jn⟩:=hv.iS (o:= .vec g' iK elems sk) bZ hg;simp only[ai.sz]at iz;subst iz;rcases jn with h0|⟨rfl,ty,m,hsh,hle'⟩
    ·have hl0:len=0:=by omega
     subst hl0;simp only[List.take_zero]at hp;exact⟨[],[],hp,hnone,hzero _ cc hy,fun u hu=>by rw[hy]at hu;cases hu⟩
    ·obtain⟨vals,hL,hvl,eD⟩:=y7 hr (i:=i) (g:=g') (sz:=iK) (elems:=elems) (sk:=sk) bZ (off:=off) (len:=len) (by omega)
     exact⟨_,vals,hp,hL,Er _ _ _ _ _ hy (by simp;omega) hL eD,fun u hu=>by rw[hy]at hu;cases hu⟩
   ·exact hp.elim
  ·exact hp.elim
 ·exact hp.elim
end
end
end Ab
