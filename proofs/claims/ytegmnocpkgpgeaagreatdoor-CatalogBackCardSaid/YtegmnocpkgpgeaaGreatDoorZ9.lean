/- Parts of the proof of PCatalogBack, one behind the other, with short names. -/
import Derived.Test.YtegmnocpkgpgeaaGreatDoorZ8
import Derived.Laws.BytesString
set_option linter.unusedVariables false
set_option linter.unusedSimpArgs false
namespace Ab
open Go
section
section
variable {P:Program} {Γ:bR} {c:Cx} {h:Heap} {w:World} {e:Env} {a:Act} {o:Oper} {k kp:SV->Heap->Prop}
theorem slice_form{x:SV}{y:Value}{sz:Nat}{K:List SV->Prop}(hv:VR c h w x y)(hp:mN h sz x K)(hx: ∀s,x≠ .str s): ∃ad n cc,y= .slice ad n cc:=by
 unfold mN at hp;split at hp
 ·exact⟨_,_,_,hv.cF⟩
 ·exact absurd rfl (hx _)
 ·obtain⟨ad,cap,h1,_⟩:=hv.oh;exact⟨_,_,_,h1⟩
 ·cases hv with
  |pure hv=>cases hv
  |sl _ _ _ _ _ _ _ hx=>obtain⟨ad,l,cc,h1⟩:=hx;exact⟨ad,l,cc,h1⟩
 ·exact hp.elim
theorem lI: ∀ {xs:List SV} {K:List UInt8->Prop},oo xs K-> ∃ns:List Int,xs=ns.map (SV.int .u8)/\K (ns.map fun n=>UInt8.ofNat n.toNat)
 | [],K,hp=>⟨[],rfl,hp⟩
 |v::r,K,hp=>by
  unfold oo at hp;split at hp
  ·rename_i n
   obtain⟨ns,rfl,hk⟩:=lI hp;exact⟨n::ns,rfl,hk⟩
  ·exact hp.elim
theorem tG: ∀ {ns:List Int} {K:List UInt8->Prop},K (ns.map fun n=>UInt8.ofNat n.toNat)->oo (ns.map (SV.int .u8)) K
 | [],K,hk=>hk
 |n::ns,K,hk=>by
  rw[List.map_cons];unfold oo;exact tG hk
theorem foldl_push(f:Int->UInt8): ∀(ns:List Int) (acc:List UInt8),ns.foldl (fun r n=>ByteArray.push r (f n)) ⟨acc.toArray⟩=⟨(acc++ns.map f).toArray⟩
 | [],acc=>by simp
 |n::ns,acc=>by
  rw[List.foldl_cons];have:ByteArray.push ⟨acc.toArray⟩ (f n)=⟨(acc++[f n]).toArray⟩:=by simp[ByteArray.push]
  rw[this,foldl_push f ns];simp
theorem Es(hr:bT c h w)(he:ER c h w e a.tmps){s d el:TypeId}{x:Operand}(ho:o.op= .convert s d x)(hs:P.underlying s=some (.slice el))(hel:P.underlying el=some (.int .u8))(hd:P.underlying d=some .string)
  (hp:bF P Γ (.toStr (aD x)) e h k kp):dW P c h w a o k:=by
 simp only[bF,aE]at hp;have hx:=he.ev x;split at hp
 ·exact hp.elim
 ·rename_i hne
  obtain⟨ad,n,cc,dA⟩:=slice_form hx hp hne;obtain⟨xs,news,hp,hL,hsrc,_⟩:=wz hr hx hp (tx:=s) (.inl ⟨el,hs⟩);obtain⟨ns,rfl,hk⟩:=lI hp
  have hnews:news=ns.map (Value.int .u8):=by
   apply List.ext_getElem?
   intro j;have hl:=hL.1;rw[List.length_map,Nat.mul_one]at hl;rcases Nat.lt_or_ge j ns.length with hj|hj
   ·have hv:=hL.2.2 j 0 (.int .u8 ns[j]) (.int .u8 ns[j]) (news[j]'(by omega)) (by simp[hj]) rfl (by rw[Nat.mul_one,Nat.add_zero];exact List.getElem?_eq_getElem _)
    rw[List.getElem?_eq_getElem (by omega),hv.bQ];simp[hj]
   ·rw[List.getElem?_eq_none (by omega),List.getElem?_eq_none (by simpa using hj)]
  subst hnews;have hs0:=hsrc (fun u hu=>by obtain⟨_,_,rfl⟩:=List.mem_map.1 hu;rfl);refine .of _ _ hk ?_ .str;have hcells:=hs0.cells;rw[dA]at hcells;have uH:=foldl_push (fun n=>UInt8.ofNat n.toNat) ns [];simp only[List.nil_append]at uH
  have hrun:(Conv.bytesToString (.slice ad n cc)).run P w= .ok (.string ⟨(ns.map fun n=>UInt8.ofNat n.toNat).toArray⟩) w:=by
   cases ad with
   |none=>
    simp only[Builtin.firstCells,Sem.run_pure,Result.ok.injEq,and_true]at hcells
    have:ns=[]:=by
     have:=congrArg Array.size hcells;simp at this;exact List.eq_nil_of_length_eq_zero this.symm
    subst this;simp[Conv.bytesToString];rfl
   |some ad=>
    have hn:n=ns.length:=by
     have:=hs0.len w;rw[dA]at this;simp[Builtin.lenOf]at this;exact this
    simp only[Builtin.firstCells,Nat.mul_one,List.length_map]at hcells;rw[run_bytesToString w ad n cc ns (by rw[hn];exact hcells),<-uH];rfl
  simp[execOp,ho,dA,run_convert_bytes_string w s d el ad n cc hs hel hd,hrun]
theorem Et(w:World)(C:Array Value)(ty:TypeId)(o:Nat):(w.alloc (.cells C ty)).freeze ⟨w.heap.size,o,none⟩ 1=w.alloc (.cells C ty (o,o+1)):=by
 unfold World.freeze;rw[if_neg (by decide)];have: ∀(A B:Array Obj),A=B->({(w.alloc (.cells C ty))with heap:=A}:World)={(w.alloc (.cells C ty))with heap:=B}:=fun A B h=>by rw[h]
 refine(this _ _ ?_).trans (b:={(w.alloc (.cells C ty))with heap:=w.heap.push (.cells C ty (o,o+1))}) rfl;apply Array.ext_getElem?
 intro j;simp only[Array.getElem?_modify];show(if w.heap.size=j then((w.heap.push (.cells C ty))[j]?).map _ else(w.heap.push (.cells C ty))[j]?)=_;rw[Array.getElem?_push,Array.getElem?_push];by_cases hj:w.heap.size=j
 ·subst hj;simp
 ·rw[if_neg hj,if_neg (fun e=>hj e.symm),if_neg (fun e=>hj e.symm)]
theorem Ax(hr:bT c h w)(he:ER c h w e a.tmps){s d el:TypeId}{x:Operand}(ho:o.op= .convert s d x)(hs:P.underlying s=some .string)(hd:P.underlying d=some (.slice el))(hel:P.underlying el=some (.int .u8))
  (hp:bF P Γ (.qk el (aD x)) e h k kp):jt P c h w a o k:=by
 simp only[bF,aE]at hp;have hx:=he.ev x;split at hp
 ·rename_i t hev
  rw[hev]at hx;have dA:=hx.eJ;rw[qo]at hp;obtain⟨n,l⟩:=h;have hge:=grownCap_ge w t.length 0 el
  let C:Array Value:=(byteCells ⟨t.toArray⟩).toArray++Array.replicate (grownCap w t.length 0 el-t.length) (.int .u8 0)
  have Y3:C.size=grownCap w t.length 0 el:=by
   simp only[C,Array.size_append,List.size_toArray,byteCells_length,Array.size_replicate];show t.toArray.size+_=_;simp;omega
  have hrd:=nH hr;have MT:Ext c ⟨n,l⟩ w c ⟨n,l⟩ w.drew:=ko
  have hL:LW c ⟨n,l⟩ w 1 (t.map fun b=>SV.int .u8 b.toNat) (byteCells ⟨t.toArray⟩):=by
   refine⟨by simp[byteCells],fun v hv=> ?_,fun i j e v x he hv hx=> ?_⟩
   ·obtain⟨b,_,rfl⟩:=List.mem_map.1 hv;rfl
   ·rw[List.getElem?_map]at he
    cases hb:t[i]? with
    |none=>rw[hb]at he;cases he
    |some b=>
     rw[hb]at he;simp only[Option.map_some,Option.some.injEq]at he;subst he;cases j with
     |zero=>
      simp only[SV.cells,List.getElem?_cons_zero,Option.some.injEq]at hv;subst hv;simp only[byteCells,Nat.mul_one,Nat.add_zero,List.getElem?_map,hb,Option.map_some,Option.some.injEq]at hx;subst hx;exact .int
     |succ j=>simp[SV.cells]at hv
  have hall:=pO hL (Array.replicate (grownCap w t.length 0 el-t.length) (.int .u8 0))
  refine⟨_,.slice (some ⟨w.heap.size,0,none⟩) t.length (grownCap w t.length 0 el),_,c.push n w.heap.size,w.drew.alloc (.cells C el (C.size,C.size+1)),hp,.inl ?_,
   kj hrd _ _ (.vec 0 1 _ ⟨true,some el⟩ C el (C.size,C.size+1) (dM _ _) hall.1 (fun e=>by cases e) (fun _ h=>(Option.some.inj h).symm) hall.2.1 (fun k hk=>by simp only;omega) fun p j e v x' h1 h2 h3=>((hall.2.2 p j e v x' h1 h2 h3).mono hr MT).mono hrd (eE hrd _ _)),
   MT.trans hr (eE hrd _ _),?_⟩
  ·have hq:(Question.appendCap t.length 0 el).forced=false:=rfl
   have hsz:(⟨t.toArray⟩:ByteArray).size=t.length:=by simp[ByteArray.size]
   have hC:C=(Array.map (fun b:UInt8=>Value.int .u8 b.toNat) t.toArray)++Array.replicate (grownCap w t.length 0 el-t.length) (.int .u8 0):=by
    simp only[C,byteCells];congr 1
    apply Array.ext'
    simp
   have hfr:=Et w.drew C el C.size
   have rI:(w.drew.alloc (.cells C el)).shape? w.heap.size=some (el,C.size):=by
    simp only[World.shape?];rw[show w.heap.size=w.drew.heap.size from rfl,dM]
   have TF:(convert s d (.string ⟨t.toArray⟩)).run P w=(Conv.stringToBytes el ⟨t.toArray⟩).run P w:=by
    simp[convert,run_underlying hs,run_underlying hd,run_underlying hel]
   simp only[execOp,ho,dA,Sem.run_bind,TF]
   have JZ:(Conv.stringToBytes el ⟨t.toArray⟩).run P w= .ok (.slice (some ⟨w.heap.size,0,none⟩) t.length (grownCap w t.length 0 el)) (w.drew.alloc (.cells C el (C.size,C.size+1))):=by
    unfold Conv.stringToBytes;have Z7:(Array.map (fun b:UInt8=>Value.int .u8 b.toNat) t.toArray)++Array.replicate ((Question.appendCap t.length 0 el).cut (w.tape w.drawn (Question.appendCap t.length 0 el))-t.length) (.int .u8 0)=C:=hC.symm;have Xn:(w.drew.alloc (.cells C el)).freeze ⟨w.drew.heap.size,C.size,none⟩ 1=w.drew.alloc (.cells C el (C.size,C.size+1)):=hfr;have Nd:(w.drew.alloc (.cells C el)).shape? w.drew.heap.size=some (el,C.size):=rI;simp only[hsz,Sem.run_bind,run_choose_drew,hq,Bool.false_eq_true,if_false,Result.andThen_ok,newRow,run_newObj_alloc,Sem.run_pure,markStringish,run_shape,Z7,Nd,run_freeze,Xn];rfl
   rw[JZ];rfl
  ·exact .sl _ _ _ _ _ _ _ ⟨_,_,_,rfl⟩ (Nat.lt_succ_self _) (fun _ _=>Nat.zero_le _) fun o' ho' _=>by
    rw[cG,if_pos rfl]at ho';cases ho'
    have hsh:(w.drew.alloc (.cells C el (C.size,C.size+1))).shape? ((c.push n w.heap.size).β n)=some (el,C.size):=by simp only[World.shape?,Cx.push,if_pos];rw[show w.heap.size=w.drew.heap.size from rfl,dM]
    refine⟨rfl,_,_,rfl,hge,fun k hk=>(by cases hk),.inr ⟨by simp[Cx.push],el,_,hsh,by omega⟩,fun _=>⟨el,_,hsh,by omega⟩⟩
 ·exact hp.elim
end
end
end Ab
