/- Parts of the proof of PParserBlanks, one behind the other, with short names. -/
import Derived.Test.YtbjifmbemdhndaaGreatDoorZ2
import Derived.Laws.Cells
import Derived.Laws.CopyRow
import Derived.Laws.World
import Derived.WalkKit
set_option linter.unusedVariables false
set_option linter.unusedSimpArgs false
namespace Ab
open Go
section
theorem bX(s t:Nat):(Nat.beq s t=true/\s=t)\/(Nat.beq s t=false/\s≠t):=by
 cases h:Nat.beq s t
 ·exact .inr ⟨rfl,fun e=>by subst e;simp at h⟩
 ·exact .inl ⟨rfl,Nat.eq_of_beq_eq_true h⟩
theorem iK{α:Sort _}(t:Nat)(k:SV->α): ∀e:Env,Env.uM e t k=k (Env.get e t)
 | []=>rfl
 |(s,v)::r=>by
  unfold Env.uM Env.get;rcases bX s t with⟨h,_⟩|⟨h,_⟩<;>rw[h]
  ·rfl
  ·exact iK t k r
theorem p5{α:Sort _}(t:Nat)(v:SV): ∀(e:Env) (k:Env->α),Env.At e t v k=k (Env.put e t v)
 | [],k=>rfl
 |(s,w)::r,k=>by
  unfold Env.At Env.put;rcases bX s t with⟨h,_⟩|⟨h,_⟩<;>rw[h]
  ·rfl
  ·exact p5 t v r _
theorem vG{α:Sort _}(t:Nat): ∀(e:Env) (k:Env->α),Env.Au e t k=k (Env.drop e t)
 | [],k=>rfl
 |(s,w)::r,k=>by
  unfold Env.Au Env.drop;rcases bX s t with⟨h,_⟩|⟨h,_⟩<;>rw[h]
  ·exact vG t r _
  ·exact vG t r _
def Env.ot:List Nat->Env->Env
 | [],e=>e
 |t::ts,e=>Env.ot ts (Env.drop e t)
theorem ni{α:Sort _}: ∀(ts:List Nat) (e:Env) (k:Env->α),Env.qQ ts e k=k (Env.ot ts e)
 | [],e,k=>rfl
 |t::ts,e,k=>by unfold Env.qQ Env.ot;rw[vG];exact ni ts _ k
theorem p6(e:Env)(t:Nat)(v:SV)(u:Nat):Env.get (Env.put e t v) u=if u=t then v else Env.get e u:=by
 induction e with
 |nil=>
  unfold Env.put Env.get Env.get;rcases bX t u with⟨h,h'⟩|⟨h,h'⟩<;>rw[h]
  ·rw[if_pos h'.symm];rfl
  ·rw[if_neg (fun e=>h' e.symm)];rfl
 |cons x r ih=>
  obtain⟨s,w⟩:=x;unfold Env.put;rcases bX s t with⟨h,h'⟩|⟨h,h'⟩<;>rw[h]
  ·subst h'
   simp only[cond_true];unfold Env.get;rcases bX s u with⟨h2,oL⟩|⟨h2,oL⟩<;>rw[h2]
   ·rw[if_pos oL.symm];rfl
   ·rw[if_neg (fun e=>oL e.symm)];rfl
  ·simp only[cond_false]
   unfold Env.get;rcases bX s u with⟨h2,oL⟩|⟨h2,oL⟩<;>rw[h2]
   ·subst oL;rw[if_neg h'];rfl
   ·exact ih
theorem HB(e:Env)(t u:Nat):Env.get (Env.drop e t) u= .undef\/Env.get (Env.drop e t) u=Env.get e u:=by
 induction e with
 |nil=>exact .inl rfl
 |cons x r ih=>
  obtain⟨s,w⟩:=x;unfold Env.drop;rcases bX s t with⟨h,h'⟩|⟨h,h'⟩<;>rw[h]
  ·subst h'
   simp only[cond_true]
   have key:u=s->Env.get (Env.drop r s) u= .undef:=by
    rintro rfl;clear ih
    induction r with
    |nil=>rfl
    |cons y r ih=>
     obtain⟨s',w'⟩:=y;unfold Env.drop;rcases bX s' u with⟨h,h'⟩|⟨h,h'⟩<;>rw[h]
     ·exact ih
     ·simp only[cond_false];unfold Env.get;rw[h];exact ih
   by_cases hu:u=s
   ·exact .inl (key hu)
   ·have:Env.get ((s,w)::r) u=Env.get r u:=by
     rcases bX s u with⟨h2,oL⟩|⟨h2,oL⟩
     ·exact absurd oL.symm hu
     ·conv=>lhs;unfold Env.get
      rw[h2];rfl
    rw[this];exact ih
  ·simp only[cond_false]
   rcases bX s u with⟨h2,oL⟩|⟨h2,oL⟩
   ·right;unfold Env.get;rw[h2];rfl
   ·have e1:Env.get ((s,w)::Env.drop r t) u=Env.get (Env.drop r t) u:=by conv=>lhs;unfold Env.get
                                                                         rw[h2];rfl
    have e2:Env.get ((s,w)::r) u=Env.get r u:=by conv=>lhs;unfold Env.get
                                                 rw[h2];rfl
    rw[e1,e2];exact ih
theorem FV(ts:List Nat): ∀(e:Env) (u:Nat),Env.get (Env.ot ts e) u= .undef\/Env.get (Env.ot ts e) u=Env.get e u:=by
 induction ts with
 |nil=>exact fun e u=> .inr rfl
 |cons t ts ih=>
  intro e u;unfold Env.ot;rcases ih (Env.drop e t) u with h|h
  ·exact .inl h
  ·rw[h];exact HB e t u
theorem bC{α:Sort _}(i:Nat)(k:aG->α)(d:α): ∀l:List (Nat×aG),ff l i k d=match aV l i with|some o=>k o|none=>d
 | []=>rfl
 |(s,o)::r=>by
  unfold ff aV;rcases bX s i with⟨h,h'⟩|⟨h,h'⟩<;>rw[h]
  ·rw[if_pos h']
  ·rw[if_neg h'];exact bC i k d r
def cO:List (Nat×aG)->Nat->aG->List (Nat×aG)
 | [],_,_=>[]
 |(s,o)::r,i,o'=>if s=i then(s,o')::r else(s,o)::cO r i o'
theorem eW{α:Sort _}(i:Nat)(o':aG): ∀(l:List (Nat×aG)) (k:List (Nat×aG)->α),oR l i o' k=k (cO l i o')
 | [],k=>rfl
 |(s,o)::r,k=>by
  unfold oR cO;rcases bX s i with⟨h,h'⟩|⟨h,h'⟩<;>rw[h]
  ·rw[if_pos h']
  ·rw[if_neg h'];exact eW i o' r _
theorem eE(l:List (Nat×aG))(i:Nat)(o':aG)(j:Nat):aV (cO l i o') j=if j=i then(aV l i).map (fun _=>o')else aV l j:=by
 induction l with
 |nil=>unfold cO aV;split<;>rfl
 |cons x r ih=>
  obtain⟨s,o⟩:=x;unfold cO;by_cases h:s=i
  ·subst h
   rw[if_pos rfl];unfold aV;by_cases h2:s=j
   ·subst h2;simp
   ·rw[if_neg h2,if_neg (fun e=>h2 e.symm),if_neg h2]
  ·rw[if_neg h]
   unfold aV;by_cases h2:s=j
   ·subst h2;rw[if_pos rfl,if_neg h,if_pos rfl]
   ·rw[if_neg h2,if_neg h,if_neg h2];exact ih
theorem av{b:Bool}{p:Prop}:dO b p<->b=true/\p:=by
 cases b
 ·exact⟨fun h=>h.elim,fun h=>by cases h.1⟩
 ·exact⟨fun h=>⟨rfl,h⟩,fun h=>h.2⟩
theorem Ww{b:Bool}{p:Prop}(h:b=true)(hp:p): @Bool.rec (fun _=>Prop) False p b:=av.2 ⟨h,hp⟩
theorem br{b:Bool}{p q:Prop}(h1:b=true->p)(h0:b=false->q): @Bool.rec (fun _=>Prop) q p b:=by
 cases b
 ·exact h0 rfl
 ·exact h1 rfl
theorem zf{b:Bool}{p q:Prop}(h: @Bool.rec (fun _=>Prop) q p b):(b=true/\p)\/(b=false/\q):=by
 cases b
 ·exact .inr ⟨rfl,h⟩
 ·exact .inl ⟨rfl,h⟩
theorem dI{v:SV}{k:List SV->Prop}:v.gR k<->v≠ .undef/\k v.cells:=by
 cases v<;>simp[SV.gR,SV.cells]
def bw.ev(e:Env):bw->SV
 | .tmp t=>Env.get e t
 | .const v=>v
theorem aM{α:Sort _}(e:Env)(x:bw)(k:SV->α):x.fu e k=k (x.ev e):=by
 cases x
 ·exact iK _ _ _
 ·rfl
theorem kS{α:Sort _}(e:Env): ∀(l:List bw) (k:List SV->α),zb e l k=k (l.map (bw.ev e))
 | [],k=>rfl
 |x::r,k=>by
  unfold zb;rw[aM,kS e r];rfl
def ER(c:Cx)(h:Heap)(w:World)(e:Env)(tmps:Array Value):Prop:= ∀t,VR c h w (Env.get e t) (tmps.getD t undef)
theorem eF{Im:Nat->Prop}{w:World}: ∀(n:Nat) (v:Value),VP Im w (bH n v) v
 |0,v=> .undef v
 |n+1,v=>by
  unfold bH;split
  ·exact .bool _
  ·exact .int _ _
  ·rename_i s
   have:(⟨s.data.toList.toArray⟩:ByteArray)=s:=by cases s;rfl
   conv=>rhs;rw[<- this]
   exact .str _
  ·exact .fq
  ·exact .ak
  ·exact .jc
  ·exact .dZ
  ·exact .fZ
  ·exact .iface _ _ _ (eF n _)
  ·refine .agg _ _ (by simp) fun i v x hv hx=> ?_
   simp only[List.getElem?_map,Option.map_eq_some_iff,Array.getElem?_toList]at hv;obtain⟨y,hy,rfl⟩:=hv;rw[hx]at hy;cases hy
   exact eF n _
  ·refine .bn _ _ (by simp) fun i v x hv hx=> ?_
   simp only[List.getElem?_map,Option.map_eq_some_iff,Array.getElem?_toList]at hv;obtain⟨y,hy,rfl⟩:=hv;rw[hx]at hy;cases hy
   exact eF n _
  ·exact .undef _
section
variable {P:Program} {Γ:bZ} {c:Cx} {h:Heap} {w:World} {e:Env} {a:Act}
theorem ER.ev(he:ER c h w e a.tmps)(x:Operand):VR c h w ((aK x).ev e) (a.eval x):=by
 cases x with
 |tmp t=>exact he t
 |const v=>exact .pure (eF 4 v)
 |global g=>exact .pure (.dY g)
 |func f=>exact .pure (.func _ _ _ _ _ rfl rfl (fun i v x hv=>by simp at hv) (fun i v x hv=>by simp at hv))
def oV(e:Env)(d:Option Nat)(v:SV):Env:=match d with
 |some t=>Env.put e t v
 |none=>e
theorem ER.put(he:ER c h w e a.tmps){d:Option Nat}{v:SV}{x:Value}(hd: ∀t,d=some t->t<a.tmps.size)(hv:VR c h w v x):
  ER c h w (oV e d v) (a.put d x).tmps:=by
 cases d with
 |none=>exact he
 |some t=>
  intro u;have ht:=hd t rfl;simp only[Act.put,oV,p6];by_cases hu:u=t
  ·subst hu
   rw[if_pos rfl];simpa[Array.getD_eq_getD_getElem?,ht]using hv
  ·rw[if_neg hu]
   have:=he u;simpa[Array.getD_eq_getD_getElem?,Array.getElem?_setIfInBounds,Ne.symm hu]using this
theorem ER.mono(hr:cF c h w){c':Cx}{h':Heap}{w':World}{tmps:Array Value}(he:ER c h w e tmps)(hx:Ext c h w c' h' w'):ER c' h' w' e tmps:=fun t=>(he t).mono hr hx
theorem ER.ot{tmps:Array Value}(he:ER c h w e tmps)(ts:List Nat):ER c h w (Env.ot ts e) tmps:=fun t=>by
 rcases FV ts e t with h|h
 ·rw[h];exact .undef
 ·rw[h];exact he t
theorem gH(e:Env)(d:Option Nat)(v:SV)(k:Env->Prop):nh e d v k=k (oV e d v):=by
 cases d
 ·rfl
 ·exact p5 _ _ _ _
theorem add_eq(b o n:Nat):(⟨b,o,none⟩:Addr).add n=⟨b,o+n,none⟩:=by unfold Addr.add;split<;>simp_all
theorem ey{α:Type _}: ∀(l:List α) (i:Nat),fT l i=l[i]?
 | [],i=>by simp[fT]
 |x::r,0=>by simp[fT]
 |x::r,i+1=>by simpa[fT]using ey r i
theorem eM: ∀ {l:List SV} {n:Nat} {k:List SV->Prop},oS l n k<->n<=l.length/\k (l.drop n)
 |l,0,k=>by simp[oS]
 | [],n+1,k=>by simp[oS]
 |x::r,n+1,k=>by simp[oS,eM]
theorem dN: ∀ {l:List SV} {n:Nat} {k:List SV->Prop},takeN l n k<->n<=l.length/\k (l.take n)
 |l,0,k=>by cases l<;>simp[takeN]
 | [],n+1,k=>by simp[takeN]
 |x::r,n+1,k=>by simp[takeN,dN]
theorem p7(hr:cF c h w){p:SV}{x:Value}(hx:VR c h w p x){k:List SV->Nat->Prop}(hp:mq h p k):
  ∃cs sub b base C ty fz,k cs sub/\x= .pointer (some ⟨b,base+sub,none⟩)/\w.heap[b]? =some (.cells C ty fz)/\base+cs.length<=C.size/\
   ∀(j:Nat) (v:SV) (y:Value),cs[j]? =some v->C[base+j]? =some y->VR c h w v y:=by
 unfold mq at hp;split at hp
 ·rename_i v sub
  obtain⟨b,o,C,ty,fz,rfl,hb,hw,hn,hc⟩:=hx.uZ;obtain⟨_,hk⟩:=dI.1 hp;exact⟨_,_,b,o,C,ty,fz,hk,rfl,hw,hn,fun j v y hv hy=> .pure (hc j v y hv hy)⟩
 ·rename_i g
  split at hp
  ·rename_i v hv
   obtain⟨_,hk⟩:=dI.1 hp;obtain⟨_,C,ty,fz,hw,hn,hc⟩:=hr.dY.1 g v hv;exact⟨_,_,g,0,C,ty,fz,hk,hx.mX,hw,by omega,fun j u y hu hy=> .pure (hc j u y hu (by rw[Nat.zero_add]at hy;exact hy))⟩
  ·exact hp.elim
 ·rename_i i g idx sub
  obtain⟨n,l⟩:=h;simp only[bC]at hp;split at hp
  ·rename_i o ho
   split at hp
   ·rename_i g' sz elems fE
    replace hp:=av.1 hp
    obtain⟨hg,hp⟩:=hp;have hg':=Nat.eq_of_beq_eq_true hg;clear hg;subst hg';split at hp
    ·rename_i v hv
     obtain⟨hu,hk⟩:=dI.1 hp;have JO:=hx.eV (o:= .vec g' sz elems fE) ho rfl;have ja:=hr.obj i _ ho;cases ja with
     |vec g sz elems fE C ty fz hw hle heq hty hc hf hcell=>
      have Lt:elems[idx]? =some v:=by
       rw[<- ey];exact hv
      have hlt:idx<elems.length:=by
       rcases Nat.lt_or_ge idx elems.length with h|h
       ·exact h
       ·rw[List.getElem?_eq_none h]at Lt;cases Lt
      have hlen:v.cells.length=sz:=hc v (List.mem_of_getElem? Lt);refine⟨_,_,_,idx*sz,C,ty,fz,hk,JO,hw,?_,fun j u y hu hy=>hcell idx j v u y Lt hu hy⟩;have:(idx+1)*sz<=elems.length*sz:=Nat.mul_le_mul_right _ hlt;rw[hlen];have e1:(idx+1)*sz=idx*sz+sz:=by rw[Nat.succ_mul]
      omega
    ·exact hp.elim
   ·exact hp.elim
  ·exact hp.elim
 ·exact hp.elim
theorem gI{t:TypeId}{b:Bool}(hb:kN P t=some b):(isAgg t).run P w= .ok b w:=by
 unfold kN at hb;unfold isAgg;split at hb<;>rename_i hu<;>cases hb<;>simp[run_underlying hu]
theorem dJ{t:TypeId}{i:TypeInfo}(hi:P.info? t=some i):(Go.sizeOf t).run P w= .ok i.size w:=by simp[Go.sizeOf,typeInfo,hi]
theorem iL{t:TypeId}{i:TypeInfo}{z:Value}(hi:P.info? t=some i)(hz:i.zero=some z):(zeroValue t).run P w= .ok z w:=by simp[zeroValue,typeInfo,hi,hz]
def eA(P:Program)(c:Cx)(h:Heap)(w:World)(a:Act)(o:Oper)(k:SV->Heap->Prop):Prop:=
 ∃v x,k v h/\(execOp a.eval o).run P w= .ok (.value x) w/\VR c h w v x
theorem FW(hr:cF c h w)(he:ER c h w e a.tmps){o:Oper}{t:TypeId}{x:Operand}(ho:o.op= .load t x){k kp:SV->Heap->Prop}(hp:bR P Γ (l9 P o.op) e h k kp):eA P c h w a o k:=by
 simp only[ho,l9]at hp
 have hrun: ∀b off y,a.eval x= .pointer (some ⟨b,off,none⟩)->(loadVar t ⟨b,off,none⟩).run P w= .ok y w->(execOp a.eval o).run P w= .ok (.value y) w:=by
  intro b off y hx hy;simp[execOp,ho,hx,Instr.loadAt,Instr.sureAddr,hy]
 split at hp
 ·rename_i i hag hi
  simp only[bR,aM]at hp;obtain⟨cs,sub,b,base,C,ty,fz,hk,hx,hw,hle,hc⟩:=p7 hr (he.ev x) hp;obtain⟨h1,hk⟩:=eM.1 hk;obtain⟨h2,hk⟩:=dN.1 hk;simp only[List.length_drop]at h2
  let l:=(C.toList.drop (base+sub)).take i.size
  have hl:l.length=i.size:=by simp[l];omega
  refine⟨_,.agg l.toArray,hk,hrun _ _ _ hx ?_,.agg _ _ (by simp[l];omega) fun j v y hv hy=> ?_⟩
  ·have:=run_loadCells_list (P:=P) w ⟨b,base+sub,none⟩ l (fun j v hv=>by
    rw[add_eq];simp only[World.cell?,hw,Option.isSome_none,if_false];simp only[l,List.getElem?_take,List.getElem?_drop]at hv;split at hv
    ·simpa using hv
    ·cases hv)
   rw[hl]at this;simp[loadVar,gI hag,dJ hi,this]
  ·simp only[List.getElem?_take,List.getElem?_drop]at hv
   simp only[l,List.getElem?_toArray,List.getElem?_take,List.getElem?_drop]at hy;split at hv
   ·rw[if_pos ‹_›]at hy
    exact hc (sub+j) v y hv (by simpa[Nat.add_assoc]using hy)
   ·cases hv
 ·rename_i hag
  simp only[bR,aM]at hp;obtain⟨cs,sub,b,base,C,ty,fz,hk,hx,hw,hle,hc⟩:=p7 hr (he.ev x) hp;rw[ey]at hk;split at hk
  ·rename_i v hv
   have hlt:sub<cs.length:=by
    rcases Nat.lt_or_ge sub cs.length with h|h
    ·exact h
    ·rw[List.getElem?_eq_none h]at hv;cases hv
   have hy:C[base+sub]? =some C[base+sub]:=Array.getElem?_eq_getElem (by omega);refine⟨v,C[base+sub],hk,hrun _ _ _ hx ?_,hc sub v _ hv hy⟩;simp[loadVar,gI hag,World.cell?,hw,hy]
  ·exact hk.elim
 ·exact hp.elim
end
end
end Ab
