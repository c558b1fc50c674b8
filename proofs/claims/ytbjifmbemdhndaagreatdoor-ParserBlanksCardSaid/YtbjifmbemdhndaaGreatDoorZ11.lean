/- Parts of the proof of PParserBlanks, one behind the other, with short names. -/
import Derived.Test.YtbjifmbemdhndaaGreatDoorZ10
import Derived.Maps.RangeRun
import Derived.MapKept
set_option linter.unusedVariables false
set_option linter.unusedSimpArgs false
namespace Ab
open Go
section
section
variable {P:Program} {Γ:bZ} {c:Cx} {h:Heap} {w:World} {e:Env} {a:Act} {o:Oper} {k kp:SV->Heap->Prop}
def blk(w:World)(b:Nat)(ob:Obj):World:={w with heap:=w.heap.setIfInBounds b ob}
theorem AT{b:Nat}{ob:Obj}(hb:b<w.heap.size):(blk w b ob).heap[b]? =some ob:=by simp[blk,hb]
theorem HJ{b b':Nat}{ob:Obj}(hb:b'≠b):(blk w b ob).heap[b']? =w.heap[b']? :=by
 simp only[blk,Array.getElem?_setIfInBounds];rw[if_neg (fun e=>hb e.symm)]
theorem AU{b:Nat}{ob:Obj}:(blk w b ob).heap.size=w.heap.size:=by simp[blk]
def zn:Obj->Bool
 | .cells .. =>false
 |_=>true
theorem AV{b:Nat}{ob:Obj}(h:w.heap[b]? =some ob)(hn:zn ob=true):w.shape? b=none:=by
 unfold World.shape?;rw[h];cases ob<;>first|rfl|cases hn
theorem rQ{n:Nat}{l:List (Nat×aG)}(hr:cF c ⟨n,l⟩ w){i:Nat}{o0 o1:aG}{b0 b1:Obj}(ho:aV l i=some o0)(hg:o0.gen=o1.gen)(hs:o0.sz=o1.sz)(h0:w.heap[c.β i]? =some b0)(n0:zn b0=true)(n1:zn b1=true)
  (ja:Ext c ⟨n,l⟩ w c ⟨n,cO l i o1⟩ (blk w (c.β i) b1)->(blk w (c.β i) b1).heap[c.β i]? =some b1->OR c ⟨n,cO l i o1⟩ (blk w (c.β i) b1) (c.β i) o1):
  cF c ⟨n,cO l i o1⟩ (blk w (c.β i) b1)/\Ext c ⟨n,l⟩ w c ⟨n,cO l i o1⟩ (blk w (c.β i) b1):=by
 have hlt:c.β i<w.heap.size:=(hr.obj i o0 ho).lt;have hx:Ext c ⟨n,l⟩ w c ⟨n,cO l i o1⟩ (blk w (c.β i) b1):=E1 hr ho hg hs rfl rfl rfl AU (fun b' hb=>HJ hb) (by rw[AV (AT hlt) n1,AV h0 n0]);exact⟨E2 hr ho hx AU (fun b' hb=>HJ hb) (ja hx (AT hlt)),hx⟩
theorem E4{u:SV}{x:Value}(hu:VR c h w u x):VR c h w (.bn [u]) (.tuple #[x]):= .bn _ _ rfl fun i v y hv hy=>by
 cases i with
 |zero=>simp at hv hy;subst hv;subst hy;exact hu
 |succ i=>simp at hv
theorem nV{u v:SV}{x y:Value}(hu:VR c h w u x)(hv:VR c h w v y):VR c h w (.bn [u,v]) (.tuple #[x,y]):= .bn _ _ rfl fun i a b ha hb=>by
 rcases i with _|_|i
 ·simp at ha hb;subst ha;subst hb;exact hu
 ·simp at ha hb;subst ha;subst hb;exact hv
 ·simp at ha
theorem E5{u v t:SV}{x y z:Value}(hu:VR c h w u x)(hv:VR c h w v y)(ht:VR c h w t z):VR c h w (.bn [u,v,t]) (.tuple #[x,y,z]):= .bn _ _ rfl fun i a b ha hb=>by
 rcases i with _|_|_|i
 ·simp at ha hb;subst ha;subst hb;exact hu
 ·simp at ha hb;subst ha;subst hb;exact hv
 ·simp at ha hb;subst ha;subst hb;exact ht
 ·simp at ha
theorem E6:VR c h w (.bn []) (.tuple #[]):= .pure (.bn _ _ rfl fun i v x hv=>by simp at hv)
theorem AW(hr:cF c h w)(he:ER c h w e a.tmps){t:TypeId}{x:Operand}(ho:o.op= .range t x)(hu:P.underlying t=some .string)(hp:bR P Γ (.s9 (aK x)) e h k kp):jg P c h w a o k:=by
 simp only[bR,aM]at hp;have hx:=he.ev x;obtain⟨n,l⟩:=h;split at hp
 ·rename_i s n' l' hev hh
  cases hh
  rw[hev]at hx;have dS:=hx.eU;refine⟨_,.pointer (some ⟨w.heap.size,0,none⟩),_,c.push n w.heap.size,w.alloc (.stringIter ⟨s.toArray⟩ 0),hp,.inl ?_,ko hr _ _ (.iter s 0 (ei _ _)),eR hr _ _,?_⟩
  ·simp[execOp,ho,dS,Instr.range,run_underlying hu,run_newObj_alloc]
  ·exact .ref _ _ _ _ _ ⟨_,rfl⟩ (Nat.lt_succ_self _) (fun _ _=>Nat.zero_le _) fun o' ho' _=>by simp[Cx.push]
 ·exact hp.elim
theorem C8(hr:cF c h w)(he:ER c h w e a.tmps){x:Operand}(ho:o.op= .next x true)(hp:bR P Γ (.xQ (aK x)) e h k kp):jg P c h w a o k:=by
 simp only[bR,aM]at hp;have hx:=he.ev x;obtain⟨n,l⟩:=h;split at hp
 ·rename_i i g idx sub m hl hev hh
  cases hh
  rw[hev]at hx
  replace hp:=av.1 hp
  obtain⟨hc,hp⟩:=hp;simp only[Bool.and_eq_true]at hc;obtain rfl:=Nat.eq_of_beq_eq_true hc.1;obtain rfl:=Nat.eq_of_beq_eq_true hc.2.1;obtain rfl:=Nat.eq_of_beq_eq_true hc.2.2;simp only[bC]at hp;split at hp
  ·rename_i ob cK
   split at hp
   ·rename_i s pos
    have dS:=hx.eV (o:= .iter s pos) cK rfl;simp only[aG.sz,Nat.mul_zero,Nat.zero_add]at dS;cases hr.obj i _ cK with
    |iter _ _ hw=>
     have hsz:(⟨s.toArray⟩:ByteArray).size=s.length:=by simp[ByteArray.size]
     rcases zf hp with⟨hb,hp⟩|⟨hb,hp⟩
     ·have hlt:pos<s.length:=Nat.le_of_ble_eq_true hb
      obtain⟨cc,wd,QM⟩: ∃cc wd,Utf8.decode ⟨s.toArray⟩ pos=(cc,wd):=⟨_,_,rfl⟩;rw[QM]at hp;dsimp only at hp;rw[eW]at hp;have hd:=rQ (o1:= .iter s (pos+wd)) (b1:= .stringIter ⟨s.toArray⟩ (pos+wd)) hr cK rfl rfl hw rfl rfl (fun _ h=> .iter _ _ h);refine⟨_,.tuple #[.bool true,goInt pos,.int .i32 cc],_,c,blk w (c.β i) (.stringIter ⟨s.toArray⟩ (pos+wd)),hp,.inl ?_,hd.1,hd.2,E5 .bool .int .int⟩;simp only[execOp,ho,dS,Instr.next,getObj,Sem.run_bind,Sem.run,hw,Result.andThen_ok,Result.andThen,hsz,hlt,if_true,QM,setObj,blk];rfl
     ·have hge: ¬pos<s.length:=fun hlt=>by
       have:Nat.blt pos s.length=true:=by show Nat.ble (pos+1) s.length=true;rw[Nat.ble_eq];exact hlt
       rw[this]at hb;cases hb
      refine⟨_,.tuple #[.bool false],_,c,w,hp,.inl ?_,hr,.refl,E4 .bool⟩;simp only[execOp,ho,dS,Instr.next,getObj,Sem.run_bind,Sem.run,hw,Result.andThen_ok,Result.andThen,hsz,hge,if_false];rfl
   ·exact hp.elim
  ·exact hp.elim
 ·exact hp.elim
theorem C9(hr:cF c h w){t:TypeId}(ho:o.op= .makeMap t none)(hp:bR P Γ .mkMap e h k kp):jg P c h w a o k:=by
 simp only[bR]at hp;obtain⟨n,l⟩:=h;refine⟨_,.map (some w.heap.size),_,c.push n w.heap.size,w.alloc (.map #[] 0),hp,.inl ?_,ko hr _ _ (.map [] 0 (ei _ _) (by simp)),eR hr _ _,?_⟩
 ·simp[execOp,ho,Instr.makeMap,run_newObj_alloc]
 ·exact .dR _ _ _ ⟨_,rfl⟩ (Nat.lt_succ_self _) (fun _ _=>Nat.zero_le _) fun o' ho' _=>by simp[Cx.push]
theorem AX(hr:cF c h w)(he:ER c h w e a.tmps){t kt et:TypeId}{x:Operand}(ho:o.op= .range t x)(hu:P.underlying t=some (.map kt et))(hp:bR P Γ (.qP (aK x)) e h k kp):jg P c h w a o k:=by
 simp only[bR,aM]at hp;have hx:=he.ev x;obtain⟨n,l⟩:=h;split at hp
 ·rename_i n' l' hev hh
  cases hh
  rw[hev]at hx;have dS:=hx.mY;refine⟨_,.pointer (some ⟨w.heap.size,0,none⟩),_,c.push n w.heap.size,w.alloc (.mapIter none 0 #[] 0),hp,.inl ?_,ko hr _ _ (.cP .fZ 0 [] 0 none (ei _ _) (.pure .fZ)),eR hr _ _,?_⟩
  ·simp[execOp,ho,dS,Instr.range,run_underlying hu,run_newObj_alloc]
  ·exact .ref _ _ _ _ _ ⟨_,rfl⟩ (Nat.lt_succ_self _) (fun _ _=>Nat.zero_le _) fun o' ho' _=>by simp[Cx.push]
 ·rename_i i g n' l' hev hh
  cases hh
  rw[hev]at hx;simp only[bC]at hp;split at hp
  ·rename_i ob cK
   split at hp
   ·rename_i es cl
    replace hp:=av.1 hp
    obtain⟨hg,hp⟩:=hp;obtain rfl:=Nat.eq_of_beq_eq_true hg;have dS:=hx.mZ (o:= .map es cl) cK rfl;cases hr.obj i _ cK with
    |map _ _ hw hs=>
     refine⟨_,.pointer (some ⟨w.heap.size,0,none⟩),_,c.push n w.heap.size,w.alloc (.mapIter (some (c.β i)) cl #[] cl),hp,.inl ?_,ko hr _ _ (.cP _ cl [] cl _ (ei _ _) ?_),eR hr _ _,?_⟩
     ·simp[execOp,ho,dS,Instr.range,run_underlying hu,getObj,Sem.run,hw,run_newObj_alloc]
     ·rw[<- dS];exact hx.mono hr (eR hr _ _)
     ·exact .ref _ _ _ _ _ ⟨_,rfl⟩ (Nat.lt_succ_self _) (fun _ _=>Nat.zero_le _) fun o' ho' _=>by simp[Cx.push]
   ·exact hp.elim
  ·exact hp.elim
 ·exact hp.elim
def kindOk(b:Bool)(kd:TypeDesc):Prop:=match b with|true=>kd= .string|false=> ∃q,kd= .int q
theorem F9{isStr:Bool}{kd:TypeDesc}(CB:kindOk isStr kd){kk x:SV}(hk:xd isStr kk=true){b:Bool}(he:xT kk x=some b):Instr.sameNow kd (valOf 4 kk) (valOf 4 x)=some b:=by
 unfold xT at he;split at he
 ·rename_i s t
  cases he
  cases isStr with
  |true=>
   subst CB;show some (_==_)=_;congr 1
   rw[Bool.eq_iff_iff,Go.MapKept.bytes_beq,beq_iff_eq];exact⟨fun h=>by have:=congrArg (fun b:ByteArray=>b.data.toList) h;simpa using this,fun h=>by rw[h]⟩
  |false=>cases hk
 ·rename_i q m q' m'
  split at he
  ·rename_i hq
   cases he
   cases isStr with
   |true=>cases hk
   |false=>
    obtain⟨q2,rfl⟩:=CB;show(if q=q' then some (m==m')else none)=_;rw[if_pos (nS.1 hq)]
  ·cases he
 ·cases he
theorem tf{isStr:Bool}{kd:TypeDesc}(CB:kindOk isStr kd){kk:SV}(hk:xd isStr kk=true): ∀ {es:List (SV×SV×Nat)} {i:Nat} {K:Option (Nat×SV)->Prop},qz kk es i K->
  ∃r,K r/\Instr.findNow kd (valOf 4 kk) (es.map dV) i=some (r.map fun p=>(p.1,valOf 4 p.2))/\ ∀j v,r=some (j,v)->i<=j/\ ∃x s,es[j-i]? =some (x,v,s)/\xT kk x=some true
 | [],i,K,hp=>⟨none,hp,rfl,fun j v h=>by cases h⟩
 |(x,v,s)::r,i,K,hp=>by
  unfold qz at hp;split at hp
  ·rename_i b hb
   have hn:=F9 CB hk hb;rcases zf hp with⟨rfl,hp⟩|⟨rfl,hp⟩
   ·refine⟨_,hp,?_,fun j v' h=> ?_⟩
    ·simp only[List.map_cons,dV,Instr.findNow,hn]
     rfl
    ·cases h
     exact⟨Nat.le_refl _,x,s,by simp,hb⟩
   ·obtain⟨r',h1,h2,h3⟩:=tf CB hk hp
    refine⟨r',h1,?_,fun j v' h=> ?_⟩
    ·simp only[List.map_cons,dV,Instr.findNow,hn]
     exact h2
    ·obtain⟨h4,x',s',h5,h6⟩:=h3 j v' h
     refine⟨by omega,x',s',?_,h6⟩;rw[show j-i=(j-(i+1))+1 by omega,List.getElem?_cons_succ];exact h5
  ·exact hp.elim
theorem x9{t:TypeId}{b:Bool}(h:FT P t=some b): ∃kd,P.underlying t=some kd/\kindOk b kd:=by
 unfold FT at h;split at h
 ·rename_i hu;cases h;exact⟨_,hu,rfl⟩
 ·rename_i q hu;cases h;exact⟨_,hu,q,rfl⟩
 ·cases h
theorem AY{isStr:Bool}{kk:SV}(hk:xd isStr kk=true){x:Value}(hx:VR c h w kk x):x=valOf 4 kk:=by
 unfold xd at hk;split at hk
 ·exact hx.eU
 ·exact hx.bY
 ·cases hk
theorem qa{b empty:Bool}{kt:TypeId}{kd:TypeDesc}(hu:P.underlying kt=some kd)(CB:kindOk b kd)(x:Value):(Instr.checkKey empty 10000 kt x).run P w= .ok () w:=by
 have:(10000:Nat)=9999+1:=rfl;rw[this];unfold Instr.checkKey;cases b with
 |true=>subst CB;simp[run_underlying hu]
 |false=>obtain⟨q,rfl⟩:=CB;simp[run_underlying hu]
theorem rR{kt:TypeId}{kd:TypeDesc}(hu:P.underlying kt=some kd){kx:Value}{es:List MapEntry}{r:Option (Nat×Value)}(h:Instr.findNow kd kx es 0=some r):(Instr.findKey kt kx es).run P w= .ok r w:=by
 unfold Instr.findKey;simp[run_underlying hu,h]
theorem AZ(hr:cF c h w)(he:ER c h w e a.tmps){isStr ok:Bool}{t kt et:TypeId}{m x:Operand}{i:TypeInfo}{z:Value}(ho:o.op= .lookup t m x ok)(hu:P.underlying t=some (.map kt et))(J6:FT P kt=some isStr)(hi:P.info? et=some i)(hz:i.zero=some z)(J7:eP 4 (bH 4 z)=true)
  (hp:bR P Γ (.iJ isStr (bH 4 z) ok (aK m) (aK x)) e h k kp):eA P c h w a o k:=by
 simp only[bR,aM]at hp;have hm:=he.ev m;have hx:=he.ev x;obtain⟨kd,HK,CB⟩:=x9 J6;have CT:VR c h w (bH 4 z) z:= .pure (eF 4 z);obtain⟨n,l⟩:=h;have QN:(zeroValue et).run P w= .ok z w:=iL hi hz;split at hp
 ·rename_i hev
  rw[hev]at hm
  replace hp:=av.1 hp
  obtain⟨LA,hp⟩:=hp;have hme:=hm.mY
  have hrun:(Instr.lookup t (a.eval m) (a.eval x) ok).run P w= .ok (if ok then .tuple #[z,.bool false]else z) w:=by
   have h0:=rR (P:=P) (w:=w) (es:=[]) HK (kx:=a.eval x) (r:=none) rfl;unfold Instr.lookup;simp only[Sem.run_bind,run_underlying hu,Result.andThen_ok,hme,Sem.run_pure,qa HK CB,Array.toList_empty,h0];cases ok<;>simp[QN]
  cases ok
  ·exact .of _ _ hp (by simp only[execOp,ho,Sem.run_bind,hrun];rfl) CT
  ·exact .of _ _ hp (by simp only[execOp,ho,Sem.run_bind,hrun];rfl) (nV CT .bool)
 ·rename_i ii g n' l' hev hh
  cases hh
  rw[hev]at hm;simp only[bC]at hp;split at hp
  ·rename_i ob cK
   split at hp
   ·rename_i es cl
    replace hp:=av.1 hp
    obtain⟨hc,hp⟩:=hp;simp only[Bool.and_eq_true]at hc;obtain⟨hg,LA⟩:=hc;obtain rfl:=Nat.eq_of_beq_eq_true hg;have hme:=hm.mZ (o:= .map es cl) cK rfl;cases hr.obj ii _ cK with
    |map _ _ hw hs=>
     obtain⟨r,hp,hfind,Da⟩:=tf CB LA hp;rw[<- AY LA hx]at hfind
     have hrun:(Instr.lookup t (a.eval m) (a.eval x) ok).run P w= .ok (match r with|some p=>if ok then .tuple #[valOf 4 p.2,.bool true]else valOf 4 p.2|none=>if ok then .tuple #[z,.bool false]else z) w:=by
      unfold Instr.lookup;simp only[Sem.run_bind,run_underlying hu,Result.andThen_ok,hme,getObj,Sem.run,hw,Result.andThen,Sem.run_pure,qa HK CB];rw[rR HK (r:=r.map fun p=>(p.1,valOf 4 p.2)) (by simpa using hfind)];cases r with
      |none=>cases ok<;>simp[QN]
      |some p=>cases ok<;>simp
     cases r with
     |none=>
      cases ok
      ·exact .of _ _ hp (by simp only[execOp,ho,Sem.run_bind,hrun];rfl) CT
      ·exact .of _ _ hp (by simp only[execOp,ho,Sem.run_bind,hrun];rfl) (nV CT .bool)
     |some p=>
      obtain⟨j,v⟩:=p;obtain⟨_,xk,s,S1,_⟩:=Da j v rfl;have hv:VR c ⟨n,l⟩ w v (valOf 4 v):= .pure (nc 4 v (hs _ (List.mem_of_getElem? S1)));cases ok
      ·exact .of _ _ hp (by simp only[execOp,ho,Sem.run_bind,hrun];rfl) hv
      ·exact .of _ _ hp (by simp only[execOp,ho,Sem.run_bind,hrun];rfl) (nV hv .bool)
   ·exact hp.elim
  ·exact hp.elim
 ·exact hp.elim
theorem HL{es:List (SV×SV×Nat)}{k v:SV}: ∀ {j:Nat},(FQ es j k v).map dV=(es.map dV).modify j (fun e=>{e with key:=valOf 4 k,val:=valOf 4 v}):=by
 induction es with
 |nil=>intro j;cases j<;>rfl
 |cons p r ih=>
  intro j;obtain⟨a,u,s⟩:=p;cases j with
  |zero=>rfl
  |succ j=>
   show dV (a,u,s)::(FQ r j k v).map dV=_;rw[ih];rfl
theorem Db{es:List (SV×SV×Nat)}{k v:SV}(hv:eP 4 v=true): ∀ {j:Nat},(∀ p∈es,eP 4 p.2.1=true)-> ∀p∈FQ es j k v,eP 4 p.2.1=true:=by
 induction es with
 |nil=>intro j _ p hp;cases j<;>cases hp
 |cons q r ih=>
  intro j hs p hp;obtain⟨a,u,s⟩:=q;cases j with
  |zero=>
   rcases List.mem_cons.1 hp with rfl|hp
   ·exact hv
   ·exact hs p (by simp[hp])
  |succ j=>
   rcases List.mem_cons.1 hp with rfl|hp
   ·exact hs _ (by simp)
   ·exact ih (fun p hp=>hs p (by simp[hp])) p hp
theorem Dc{isStr:Bool}{kk x:SV}(hk:xd isStr kk=true)(he:xT kk x=some true):valOf 4 x=valOf 4 kk:=by
 unfold xT at he;split at he
 ·rename_i s t
  have:s=t:=by simpa using he
  subst this;rfl
 ·rename_i q m q' m'
  split at he
  ·rename_i hq
   have h1:=nS.1 hq;have:m=m':=by simpa using he
   subst h1;subst this;rfl
  ·cases he
 ·cases he
theorem HM{isStr:Bool}{kk:SV}(hk:xd isStr kk=true):Instr.sameBits 10000 (valOf 4 kk) (valOf 4 kk)=true:=by
 unfold xd at hk;split at hk
 ·exact(Go.MapKept.bytes_beq _ _).2 rfl
 ·show((_:IntKind)==_&&(_:Int)==_)=true;simp
 ·cases hk
theorem ur(hr:cF c h w)(he:ER c h w e a.tmps){isStr:Bool}{t kt et:TypeId}{m x y:Operand}(ho:o.op= .mapUpdate t m x y\/o.op= .insert t m x y)(hu:P.underlying t=some (.map kt et))(J6:FT P kt=some isStr)
  (hp:bR P Γ (.ck isStr (aK m) (aK x) (aK y)) e h k kp):jg P c h w a o k:=by
 simp only[bR,aM]at hp;have hm:=he.ev m;have hx:=he.ev x;have hy:=he.ev y;obtain⟨kd,HK,CB⟩:=x9 J6;obtain⟨n,l⟩:=h;split at hp
 ·rename_i ii g n' l' hev hh
  cases hh
  rw[hev]at hm;simp only[bC]at hp;split at hp
  ·rename_i ob cK
   split at hp
   ·rename_i es cl
    replace hp:=av.1 hp
    obtain⟨hc,hp⟩:=hp;simp only[Bool.and_eq_true]at hc;obtain⟨hg,LA,J7⟩:=hc;obtain rfl:=Nat.eq_of_beq_eq_true hg;have hme:=hm.mZ (o:= .map es cl) cK rfl;have F1:=Aq 4 _ _ J7 hy;have dS:=AY LA hx;cases hr.obj ii _ cK with
    |map _ _ hw hs=>
     obtain⟨r,hp,hfind,Da⟩:=tf CB LA hp
     have hex:(execOp a.eval o).run P w=((Instr.mapUpdate t (a.eval m) (a.eval x) (a.eval y)).run P w).andThen fun _ w=> .ok .skip w:=by
      rcases ho with ho|ho<;>(simp only[execOp,ho,Sem.run_bind];rfl)
     cases r with
     |none=>
      dsimp only at hp;rw[eW]at hp
      have hd:=rQ (o1:= .map (es++[((aK x).ev e,(aK y).ev e,cl)]) (cl+1)) (b1:= .map ((es.map dV).toArray.push ⟨a.eval x,a.eval y,cl⟩) (cl+1)) hr cK rfl rfl hw rfl rfl (fun _ h=> .map _ _ (by
       rw[h,dS,F1]
       simp[dV]) (fun p hp=>by
        rcases List.mem_append.1 hp with hp|hp
        ·exact hs p hp
        ·simp only[List.mem_singleton]at hp;subst hp;exact J7))
      refine⟨_,undef,_,c,_,hp,.inr ⟨?_,rfl⟩,hd.1,hd.2,E6⟩;rw[hex];unfold Instr.mapUpdate;simp only[Sem.run_bind,run_underlying hu,Result.andThen_ok,hme,getObj,Sem.run,hw,Result.andThen,qa HK CB];rw[rR HK (r:=none) (by rw[dS];simpa using hfind)];simp[setObj,Sem.run,hw,blk]
     |some p=>
      obtain⟨j,v⟩:=p;obtain⟨_,xk,s,S1,hsame⟩:=Da j v rfl;rw[Nat.sub_zero]at S1;dsimp only at hp;rw[eW]at hp
      have hd:=rQ (o1:= .map (FQ es j ((aK x).ev e) ((aK y).ev e)) cl) (b1:= .map ((es.map dV).toArray.modify j fun q=>{q with key:=a.eval x,val:=a.eval y}) cl) hr cK rfl rfl hw rfl rfl (fun _ h=> .map _ _ (by
       rw[h,HL,dS,F1];simp) (Db J7 hs))
      refine⟨_,undef,_,c,_,hp,.inr ⟨?_,rfl⟩,hd.1,hd.2,E6⟩;rw[hex]
      have hold:(((es.map dV).toArray[j]?).map (·.key)).getD (a.eval x)=a.eval x:=by
       simp[S1,dV,dS,Dc LA hsame]
      unfold Instr.mapUpdate;simp only[Sem.run_bind,run_underlying hu,Result.andThen_ok,hme,getObj,Sem.run,hw,Result.andThen,qa HK CB];rw[rR HK (r:=some (j,valOf 4 v)) (by rw[dS];simpa using hfind)]
      have QO:(Instr.keyThatStays (a.eval x) (a.eval x)).run P w= .ok (a.eval x) w:=by
       unfold Instr.keyThatStays;rw[dS,HM LA];simp
      simp only[Result.andThen_ok,hold,QO,Sem.run_bind];simp[setObj,Sem.run,hw,blk]
   ·exact hp.elim
  ·exact hp.elim
 ·exact hp.elim
theorem Ga(hr:cF c h w)(he:ER c h w e a.tmps){cl:Call}{x:Operand}{t kt et:TypeId}(ho:o.op= .call cl)(fC:cl.callee= .builtin .len)(hargs:cl.args.toList=[x])(je:cl.argTypes.toList=[t])(hu:P.underlying t=some (.map kt et))
  (hp:bR P Γ (.CJ (aK x)) e h k kp):eA P c h w a o k:=by
 simp only[bR,aM]at hp;have hx:=he.ev x;obtain⟨n,l⟩:=h;have dD:cl.args= #[x]:=by simpa using congrArg List.toArray hargs
 have kP:cl.argTypes= #[t]:=by simpa using congrArg List.toArray je
 split at hp
 ·rename_i hev
  rw[hev]at hx;refine .of _ _ hp ?_ .int;simp[execOp,ho,resolve,fC,dD,kP,invoke,builtin,Builtin.len_,run_underlying hu,hx.mY,goInt]
 ·rename_i ii g n' l' hev hh
  cases hh
  rw[hev]at hx;simp only[bC]at hp;split at hp
  ·rename_i ob cK
   split at hp
   ·rename_i es c2
    replace hp:=av.1 hp
    obtain⟨hg,hp⟩:=hp;obtain rfl:=Nat.eq_of_beq_eq_true hg;have dS:=hx.mZ (o:= .map es c2) cK rfl;cases hr.obj ii _ cK with
    |map _ _ hw hs=>
     refine .of _ _ hp ?_ .int;simp[execOp,ho,resolve,fC,dD,kP,invoke,builtin,Builtin.len_,run_underlying hu,dS,getObj,Sem.run,hw,goInt]
   ·exact hp.elim
  ·exact hp.elim
 ·exact hp.elim
theorem Gb(he:ER c h w e a.tmps){ok:Bool}{t xt:TypeId}{x:Operand}{i:TypeInfo}{z:Value}{d:TypeDesc}(ho:o.op= .typeAssert x xt t ok)(hu:P.underlying t=some d)(hd: ∀ms,d≠ .interface ms)(hi:P.info? t=some i)(hz:i.zero=some z)
  (hp:bR P Γ (.As t (bH 4 z) ok (aK x)) e h k kp):eA P c h w a o k:=by
 simp only[bR,aM]at hp;have hx:=he.ev x;have CT:VR c h w (bH 4 z) z:= .pure (eF 4 z);have QN:(zeroValue t).run P w= .ok z w:=iL hi hz;split at hp
 ·rename_i u v hev
  rw[hev]at hx;obtain⟨y,dS,hv⟩:=hx.gF;rcases zf hp with⟨hb,uN⟩|⟨hb,hp⟩
  ·clear hp
   obtain rfl:=Nat.eq_of_beq_eq_true hb;rcases zf uN with⟨rfl,hp⟩|⟨rfl,hp⟩
   ·refine .of _ _ hp ?_ (nV hv .bool)
    cases d<;>first|exact absurd rfl (hd _)|simp[execOp,ho,dS,Instr.typeAssert,run_underlying hu]
   ·refine .of _ _ hp ?_ hv
    cases d<;>first|exact absurd rfl (hd _)|simp[execOp,ho,dS,Instr.typeAssert,run_underlying hu]
  ·have hne: ¬u=t:=fun h=>by subst h;rw[Nat.beq_refl]at hb;cases hb
   rcases zf hp with⟨rfl,hp⟩|⟨rfl,hp⟩
   ·refine .of _ _ hp ?_ (nV CT .bool)
    cases d<;>first|exact absurd rfl (hd _)|simp[execOp,ho,dS,Instr.typeAssert,run_underlying hu,hne,QN]
   ·exact hp.elim
 ·rename_i hev
  rw[hev]at hx;have dS:=hx.ki;rcases zf hp with⟨rfl,hp⟩|⟨rfl,hp⟩
  ·refine .of _ _ hp ?_ (nV CT .bool)
   cases d<;>first|exact absurd rfl (hd _)|simp[execOp,ho,dS,Instr.typeAssert,run_underlying hu,QN]
  ·exact hp.elim
 ·exact hp.elim
theorem A4(he:ER c h w e a.tmps){neg:Bool}{t yt:TypeId}{x y:Operand}{ms:Array (String×TypeId)}(ho:o.op= .binOp (if neg then .neq else .eql) t x y yt)(hu:P.underlying t=some (.interface ms))(TE:(isConst x||isConst y)=true)
  (hp:bR P Γ (.Hs neg (aK x) (aK y)) e h k kp):eA P c h w a o k:=by
 simp only[bR,aM]at hp;have hx:=he.ev x;have hy:=he.ev y
 have Gc: ∀(xx yy:Value) (b:Bool),(xx= .nilIface/\yy= .nilIface/\b=true)\/(xx= .nilIface/\(∃ u v,yy= .iface u v)/\b=false)\/((∃ u v,xx= .iface u v)/\yy= .nilIface/\b=false)->(Op.equal t xx yy).run P w= .ok b w:=by
  intro xx yy b hh;unfold Op.equal;rw[show Op.maxDepth=9999+1 from rfl];unfold Op.equalIn;rcases hh with⟨rfl,rfl,rfl⟩|⟨rfl,⟨u,v,rfl⟩,rfl⟩|⟨⟨u,v,rfl⟩,rfl,rfl⟩<;>simp[run_underlying hu]
 have ku: ∀(op:BinOp) (xx yy:Value),(xx= .nilIface/\yy= .nilIface)\/(xx= .nilIface/\(∃ u v,yy= .iface u v))\/((∃ u v,xx= .iface u v)/\yy= .nilIface)->(eqGuard op t x y xx yy).run P w= .ok () w:=by
  intro op xx yy hh;unfold eqGuard;rcases hh with⟨rfl,rfl⟩|⟨rfl,u,v,rfl⟩|⟨⟨u,v,rfl⟩,rfl⟩
  ·clear hp hx hy ho
   cases op<;>first|rfl|(cases x<;>cases y<;>first|rfl|(simp[isConst]at TE))
  ·cases op<;>rfl
  ·cases op<;>rfl
 have fin: ∀(b:Bool),(a.eval x= .nilIface/\a.eval y= .nilIface/\b=true)\/(a.eval x= .nilIface/\(∃ u v,a.eval y= .iface u v)/\b=false)\/((∃ u v,a.eval x= .iface u v)/\a.eval y= .nilIface/\b=false)->
   (execOp a.eval o).run P w= .ok (.value (.bool (if neg then !b else b))) w:=by
  intro b hh;have h1:=Gc _ _ b hh;have h2:=ku (if neg then .neq else .eql) (a.eval x) (a.eval y) (by rcases hh with⟨p,q,_⟩|⟨p,q,_⟩|⟨p,q,_⟩;exact .inl ⟨p,q⟩;exact .inr (.inl ⟨p,q⟩);exact .inr (.inr ⟨p,q⟩))
  have hb:(binOp (if neg then .neq else .eql) t (a.eval x) (a.eval y)).run P w= .ok (.bool (if neg then !b else b)) w:=by
   rcases hh with⟨p,q,_⟩|⟨p,⟨u,v,q⟩,_⟩|⟨⟨u,v,p⟩,q,_⟩<;>(rw[p,q]at h1 ⊢;cases neg<;>simp[binOp,h1])
  simp only[execOp,ho,Sem.run_bind,h2,Result.andThen_ok,hb];rfl
 split at hp
 ·rename_i h1 h2
  rw[h1]at hx;rw[h2]at hy
  have:=fin true (.inl ⟨hx.ki,hy.ki,rfl⟩);cases neg<;>exact .of _ _ hp this .bool
 ·rename_i u v h1 h2
  rw[h1]at hx;rw[h2]at hy
  obtain⟨yy,F1,_⟩:=hy.gF;have:=fin false (.inr (.inl ⟨hx.ki,⟨_,_,F1⟩,rfl⟩));cases neg<;>exact .of _ _ hp this .bool
 ·rename_i u v h1 h2
  rw[h1]at hx;rw[h2]at hy
  obtain⟨yy,F1,_⟩:=hx.gF;have:=fin false (.inr (.inr ⟨⟨_,_,F1⟩,hy.ki,rfl⟩));cases neg<;>exact .of _ _ hp this .bool
 ·exact hp.elim
theorem o5(he:ER c h w e a.tmps)(len cap:Nat){lo hi:Option Operand}{mx:Operand}{K:Int->Int->Int->Prop}(hp:gS e 0 (lo.map aK) fun l=>gS e len (hi.map aK) fun hh=>gS e 0 (some (aK mx)) fun mm=>K l hh mm):
  ∃l hh mm,K l hh mm/\(hi≠none->0<=l->l<=hh->hh<=mm->mm<=cap->(Instr.sliceBounds true len cap (lo.map a.eval) (hi.map a.eval) (some (a.eval mx))).run P w= .ok (l.toNat,hh.toNat,mm.toNat) w):=by
 have hm: ∀ {K:Int->Prop},gS e 0 (some (aK mx)) K-> ∃kk n,K n/\a.eval mx= .int kk n:=by
  intro K hk;rcases lE he (x:=some mx) hk with⟨h,_⟩|⟨y,kk,n,h,hy,hk⟩
  ·cases h
  ·cases h;exact⟨kk,n,hk,hy⟩
 rcases lE he hp with⟨rfl,M9⟩|⟨y,kk,n,rfl,hy,M9⟩
 ·rcases lE he M9 with⟨rfl,uN⟩|⟨y,kk,n,rfl,hy,uN⟩
  ·obtain⟨_,mm,Ni,_⟩:=hm uN
   exact⟨_,_,_,Ni,fun h=>absurd rfl h⟩
  ·obtain⟨k3,mm,Ni,h3⟩:=hm uN
   refine⟨_,_,_,Ni,fun _ h0 h1 h2 h4=> ?_⟩;have e1:=gK (P:=P) (w:=w) (kk:=k3) .slice3Acap (show 0<=mm by omega) (show mm<=(cap:Int) by omega);have e2:=gK (P:=P) (w:=w) (kk:=kk) (y:=mm.toNat) .slice3B (show 0<=n by omega) (by omega);simp[Instr.sliceBounds,hy,h3,e1,e2]
 ·rcases lE he M9 with⟨rfl,uN⟩|⟨y2,VA,n2,rfl,Na,uN⟩
  ·obtain⟨_,mm,Ni,_⟩:=hm uN
   exact⟨_,_,_,Ni,fun h=>absurd rfl h⟩
  ·obtain⟨k3,mm,Ni,h3⟩:=hm uN
   refine⟨_,_,_,Ni,fun _ h0 h1 h2 h4=> ?_⟩;have e1:=gK (P:=P) (w:=w) (kk:=k3) .slice3Acap (show 0<=mm by omega) (show mm<=(cap:Int) by omega);have e2:=gK (P:=P) (w:=w) (kk:=VA) (y:=mm.toNat) .slice3B (show 0<=n2 by omega) (by omega);have e3:=gK (P:=P) (w:=w) (kk:=kk) (y:=n2.toNat) .slice3C (show 0<=n by omega) (by omega);simp[Instr.sliceBounds,hy,Na,h3,e1,e2,e3]
theorem A5(he:ER c h w e a.tmps){t el:TypeId}{x mx:Operand}{lo hi:Option Operand}{i:TypeInfo}(ho:o.op= .slice t x lo hi (some mx))(hhi:hi≠none)(hu:P.underlying t=some (.slice el))(hi':P.info? el=some i)
  (hp:bR P Γ (.slice3 i.size (aK x) (lo.map aK) (hi.map aK) (aK mx)) e h k kp):eA P c h w a o k:=by
 simp only[bR,aM]at hp;have hx:=he.ev x
 have hrun: ∀(ad:Option Addr) (len cap l hh m:Nat),a.eval x= .slice ad len cap->(Instr.sliceBounds true len cap (lo.map a.eval) (hi.map a.eval) (some (a.eval mx))).run P w= .ok (l,hh,m) w->
   (execOp a.eval o).run P w= .ok (.value (.slice (if m=l then ad else ad.map (·.add (l*i.size))) (hh-l) (m-l))) w:=by
  intro ad len cap l hh m hx hr;simp[execOp,ho,hx,Instr.sliceAt,run_underlying hu,Instr.slice,hr,dJ hi']
 split at hp
 ·rename_i sz n get h1
  rw[h1]at hx
  replace hp:=av.1 hp
  obtain⟨hsz,hp⟩:=hp;have hsz:=Nat.eq_of_beq_eq_true hsz;obtain⟨ad,cap,dS,hnc,ja⟩:=hx.nP;obtain⟨l,hh,mm,hp,w7⟩:=o5 (P:=P) (w:=w) he n cap hp
  replace hp:=av.1 hp
  obtain⟨hb,hp⟩:=hp;simp only[Bool.and_eq_true,decide_eq_true_eq]at hb;obtain⟨⟨h0,h1⟩,h2,h3⟩:=hb;refine .of _ _ hp (hrun _ _ _ _ _ _ dS (w7 hhi h0 h1 h2 (by omega))) ?_;by_cases hz:hh.toNat-l.toNat=0
  ·rw[hz]
   exact .pure (.oO _ _ _ _)
  ·rcases ja with rfl|⟨b,off,C,ty,fz,rfl,hb,hw,hn,hc,hcell⟩
   ·omega
   ·rw[if_neg (by omega)]
    simp only[Option.map_some,add_eq];refine .pure (.dm sz _ _ b (off+l.toNat*i.size) _ C ty fz hb hw ?_ (by omega) (fun j hj=>hc _ (by omega)) fun j j' v y hj hv hy=>hcell (l.toNat+j) j' v y (by omega) hv ?_)
    ·have e1:(l.toNat+(hh.toNat-l.toNat))*sz<=n*sz:=Nat.mul_le_mul_right _ (by omega)
     rw[Nat.add_mul]at e1;rw[<- hsz];omega
    ·rw[<- hy,<-hsz,Nat.add_mul]
     congr 1
     omega
 ·rename_i ii g sz off len cap hev
  rw[hev]at hx;clear hev
  replace hp:=av.1 hp
  obtain⟨hsz,hp⟩:=hp;have hsz:=Nat.eq_of_beq_eq_true hsz;obtain⟨hp,sz',elems,sk,cK⟩:=fc hp;obtain⟨gU,ad,cc,dS,hlc,hcap,ja⟩:=hx.iH cK rfl;obtain⟨l,hh,mm,hp,w7⟩:=o5 (P:=P) (w:=w) he len cc hp
  replace hp:=av.1 hp
  obtain⟨hb,hp⟩:=hp;simp only[Bool.and_eq_true,decide_eq_true_eq]at hb;obtain⟨⟨h0,h1⟩,h2,h3⟩:=hb
  have YT:mm.toNat<=cc:=by
   cases cap with
   |some cp=>have:=hcap cp rfl;dsimp only at h3;omega
   |none=>dsimp only at h3;omega
  refine .of _ _ hp (hrun _ _ _ _ _ _ dS (w7 hhi h0 h1 h2 (by omega))) ?_;cases hx with
  |pure hx=>cases hx
  |sl _ _ _ _ _ _ _ _ hi hg _=>
  refine .sl _ _ _ _ _ _ _ ⟨_,_,_,rfl⟩ hi hg fun o' ho' hgo=> ?_
  rw[cK]at ho';cases ho'
  by_cases hz:mm.toNat=l.toNat
  ·rw[if_pos hz]
   exact⟨gU,ad,_,rfl,by omega,fun k hk=>by cases hk;rfl,.inl (by omega),fun h=>by cases h⟩
  ·rw[if_neg hz]
   simp only[Option.map_some];refine⟨gU,_,_,rfl,by omega,fun k hk=>by cases hk;rfl,.inr ?_,fun h=>by cases h⟩;rcases ja with h0|⟨rfl,ty,n,hsh,hle'⟩
   ·omega
   ·refine⟨by rw[add_eq,Nat.add_mul,hsz],ty,n,hsh,?_⟩
    have e1:(off+l.toNat)*sz+(mm.toNat-l.toNat)*sz=(off+mm.toNat)*sz:=by
     rw[<- Nat.add_mul];congr 1
     omega
    have e2:(off+mm.toNat)*sz<=(off+cc)*sz:=Nat.mul_le_mul_right _ (by omega);rw[Nat.add_mul off cc]at e2;omega
 ·rename_i h1
  rw[h1]at hx;obtain⟨l,hh,mm,hp,w7⟩:=o5 (P:=P) (w:=w) he 0 0 hp
  replace hp:=av.1 hp
  obtain⟨hb,hp⟩:=hp;simp only[Bool.and_eq_true,decide_eq_true_eq]at hb;obtain⟨h0,h1,h2⟩:=hb;subst h0;subst h1;subst h2
  refine .of _ _ hp (hrun _ _ _ _ _ _ hx.cX (w7 hhi (by omega) (by omega) (by omega) (by omega))) ?_;exact .pure .ak
 ·exact hp.elim
theorem A6: ∀ {s:List Nat} {n:Nat},mM s n=s.contains n
 | [],n=>rfl
 |x::r,n=>by
  unfold mM;rw[List.contains_cons,A6];rcases bX x n with⟨h,h'⟩|⟨h,h'⟩
  ·rw[h];subst h';simp
  ·rw[h]
   have:(n==x)=false:=by simpa using fun e=>h' e.symm
   rw[this];rfl
theorem vT: ∀(es:List (SV×SV×Nat)) (s:List Nat),(oo es s).map dV=(es.map dV).filter fun e=> !s.contains e.born
 | [],s=>rfl
 |x::r,s=>by
  unfold oo;rw[A6,List.map_cons,List.filter_cons];show _=if(!s.contains x.2.2)=true then _ else _
  cases s.contains x.2.2
  ·simp[vT r s]
  ·simp[vT r s]
theorem A7{p:SV->SV->Nat->Prop}: ∀ {l:List (SV×SV×Nat)},M7 l p-> ∀x∈l,p x.1 x.2.1 x.2.2
 | [],_,x,h=>by cases h
 |y::r,⟨h1,h2⟩,x,h=>by
  rcases List.mem_cons.1 h with rfl|h
  ·exact h1
  ·exact A7 h2 x h
theorem A8: ∀(es:List (SV×SV×Nat)) (s:Nat) {kk v:SV},EV es s=some (kk,v)-> ∃e,(es.map dV).find? (fun x=>x.born==s)=some e/\e.key=valOf 4 kk/\e.val=valOf 4 v/\ ∃x∈es,x.1=kk/\x.2.1=v
 | [],s,kk,v,h=>by cases h
 |x::r,s,kk,v,h=>by
  unfold EV at h;rw[List.map_cons,List.find?_cons];show ∃e,(match x.2.2==s with|true=>_|false=>_)=some e/\_;rcases bX x.2.2 s with⟨hb,h'⟩|⟨hb,h'⟩
  ·rw[hb]at h
   cases h
   rw[beq_iff_eq.2 h'];exact⟨_,rfl,rfl,rfl,x,List.mem_cons_self ..,rfl,rfl⟩
  ·rw[hb]at h
   have:(x.2.2==s)=false:=by simpa using h'
   rw[this];obtain⟨e,h1,h2,h3,y,hy,h4⟩:=A8 r s h;exact⟨e,h1,h2,h3,y,List.mem_cons_of_mem _ hy,h4⟩
theorem A9: ∀(l:List Nat),l.getLast? =Hx l
 | []=>rfl
 | [x]=>rfl
 |x::y::r=>by
  rw[List.getLast?_cons_cons,A9 (y::r)];rfl
theorem Gd{es:List (SV×SV×Nat)}{q:Nat->Bool}(h:(es.all fun x=>q x.2.2&&(eP 4 x.1&&eP 4 x.2.1))=true): ∀x∈es,q x.2.2=true/\eP 4 x.1=true/\eP 4 x.2.1=true:=fun x hx=>by
 have:=List.all_eq_true.1 h x hx;simpa only[Bool.and_eq_true]using this
theorem Dd(hr:cF c h w)(he:ER c h w e a.tmps){x:Operand}(ho:o.op= .next x false)(hp:bR P Γ (.vw (aK x)) e h k kp):jg P c h w a o k:=by
 simp only[bR,aM]at hp;have hx:=he.ev x;obtain⟨n,l⟩:=h;split at hp
 ·rename_i j g idx sub n' l' hev hh
  cases hh
  rw[hev]at hx
  replace hp:=av.1 hp
  obtain⟨Nj,hp⟩:=hp;simp only[Bool.and_eq_true]at Nj;obtain rfl:=Nat.eq_of_beq_eq_true Nj.1;obtain rfl:=Nat.eq_of_beq_eq_true Nj.2;simp only[bC]at hp;split at hp
  ·rename_i ob cK
   split at hp
   ·rename_i m since seen stepped
    split at hp
    ·rename_i i g'
     replace hp:=av.1 hp
     obtain⟨hg',hp⟩:=hp;obtain rfl:=Nat.eq_of_beq_eq_true hg';split at hp
     ·rename_i TF rS
      split at hp
      ·rename_i es cl
       replace hp:=av.1 hp
       obtain⟨hall,hp⟩:=hp;simp only[Bool.and_eq_true]at hall;have hsc:=Nat.le_of_ble_eq_true hall.1;have VE:=Gd (q:=fun n=>Nat.blt n since) hall.2;have dS:=hx.eV (o:= .cP (.dR i 0) since seen stepped) cK rfl;have dS:a.eval x= .pointer (some ⟨c.β j,0,none⟩):=by simpa[aG.sz]using dS
       cases hr.obj j _ cK with
       |cP _ _ _ _ r hw hm=>
       cases hr.obj i _ rS with
       |map _ _ hw' hs=>
       have J8:=hm.mZ (o:= .map es cl) rS rfl;have J8:r=some (c.β i):=by simpa using J8
       subst J8;have hlt:c.β j<w.heap.size:=(hr.obj j _ cK).lt
       have hleft:leftOf (es.map dV).toArray seen.toArray=((oo es seen).map dV).toArray:=by
        unfold leftOf;rw[vT];simp
       rcases run_next_at (P:=P) w o.type (c.β j) (c.β i) since stepped seen.toArray (es.map dV).toArray cl hw hw' (fun y hy=>by
        obtain⟨z,hz,rfl⟩:=List.mem_map.1 (show y∈es.map dV from hy);show z.2.2<since;exact Nat.lt_of_succ_le (by simpa[Nat.blt]using (VE z hz).1)) hsc with⟨h0,hrun⟩|⟨en,vU,w1,hw1,hrun⟩
       ·rw[hleft]at h0
        have:oo es seen=[]:=by simpa using h0
        rw[this]at hp;exact⟨_,.tuple #[.bool false],_,c,w,hp,.inl (by simp[execOp,ho,dS,hrun]),hr,.refl,E4 .bool⟩
       ·rw[hleft]at vU
        obtain⟨z,hz,rfl⟩:=List.mem_map.1 (show en∈(oo es seen).map dV from vU)
        have hp:oR l j (.cP (.dR i 0) since (seen++[z.2.2]) cl) fun l'=>k (.bn [.bool true,z.1,z.2.1]) ⟨n,l'⟩:=by
         revert hp;cases hL:oo es seen with
         |nil=>rw[hL]at hz;cases hz
         |cons y r=>intro hp;rw[hL]at hz;exact A7 hp z hz
        rw[eW]at hp
        have hsub: ∀ {q:SV×SV×Nat},q∈oo es seen->q∈es:=by
         have: ∀(es:List (SV×SV×Nat)),∀q∈oo es seen,q∈es:=fun es=>by
          induction es with
          |nil=>intro q hq;cases hq
          |cons y r ih=>
           intro q hq;unfold oo at hq;cases hb:mM seen y.2.2
           ·rw[hb]at hq
            rcases List.mem_cons.1 hq with rfl|hq
            ·exact List.mem_cons_self ..
            ·exact List.mem_cons_of_mem _ (ih q hq)
           ·rw[hb]at hq;exact List.mem_cons_of_mem _ (ih q hq)
         exact fun{q} hq=>this es q hq
        have oM:cF c ⟨n,l⟩ w1:=by rcases hw1 with rfl|rfl;exact hr;exact nj hr
        have hx1:Ext c ⟨n,l⟩ w c ⟨n,l⟩ w1:=by rcases hw1 with rfl|rfl;exact .refl;exact kr
        have QS:w1.heap=w.heap:=by rcases hw1 with rfl|rfl<;>rfl
        obtain⟨iO,hx2⟩:=rQ (o1:= .cP (.dR i 0) since (seen++[z.2.2]) cl) (b1:= .mapIter (some (c.β i)) since (seen.toArray.push z.2.2) cl) oM cK rfl rfl (by rw[QS];exact hw) rfl rfl
         (fun hx HN=> .cP _ _ _ _ (some (c.β i)) (by rw[HN];simp) (hm.mono hr (hx1.trans hr hx)))
        have hzs:=VE z (hsub hz);refine⟨_,.tuple #[.bool true,valOf 4 z.1,valOf 4 z.2.1],_,c,_,hp,.inl ?_,iO,hx1.trans hr hx2,E5 .bool (.pure (nc 4 _ hzs.2.1)) (.pure (nc 4 _ hzs.2.2))⟩;simp[execOp,ho,dS,hrun]
        first|exact⟨⟨rfl,rfl⟩,rfl⟩|exact⟨rfl,rfl,rfl⟩
      ·exact hp.elim
     ·exact hp.elim
    ·exact hp.elim
   ·exact hp.elim
  ·exact hp.elim
 ·exact hp.elim
theorem De(hr:cF c h w)(he:ER c h w e a.tmps){x:Operand}(ho:o.op= .entry x)(hp:bR P Γ (.entry (aK x)) e h k kp):jg P c h w a o k:=by
 simp only[bR,aM]at hp;have hx:=he.ev x;obtain⟨n,l⟩:=h;split at hp
 ·rename_i j g idx sub n' l' hev hh
  cases hh
  rw[hev]at hx
  replace hp:=av.1 hp
  obtain⟨Nj,hp⟩:=hp;simp only[Bool.and_eq_true]at Nj;obtain rfl:=Nat.eq_of_beq_eq_true Nj.1;obtain rfl:=Nat.eq_of_beq_eq_true Nj.2;simp only[bC]at hp;split at hp
  ·rename_i ob cK
   split at hp
   ·rename_i m since seen stepped
    split at hp
    ·rename_i i g'
     replace hp:=av.1 hp
     obtain⟨hg',hp⟩:=hp;obtain rfl:=Nat.eq_of_beq_eq_true hg';split at hp
     ·rename_i TF rS
      split at hp
      ·rename_i es cl
       replace hp:=av.1 hp
       obtain⟨hall,hp⟩:=hp;simp only[Bool.and_eq_true]at hall;obtain rfl:=Nat.eq_of_beq_eq_true hall.1;have dS:=hx.eV (o:= .cP (.dR i 0) since seen cl) cK rfl;have dS:a.eval x= .pointer (some ⟨c.β j,0,none⟩):=by simpa[aG.sz]using dS
       split at hp
       ·rename_i s hs
        split at hp
        ·rename_i kk v hf
         obtain⟨en,h1,h2,h3,z,hz,rfl,rfl⟩:=A8 es s hf;have hzs:=List.all_eq_true.1 hall.2 z hz;simp only[Bool.and_eq_true]at hzs;cases hr.obj j _ cK with
         |cP _ _ _ _ r hw hm=>
         cases hr.obj i _ rS with
         |map _ _ hw' hs'=>
         have J8:=hm.mZ (o:= .map es cl) rS rfl;have J8:r=some (c.β i):=by simpa using J8
         subst J8;have hb:seen.toArray.back? =some s:=by rw[<- hs,<-A9];simp[Array.back?,List.getLast?_eq_getElem?]
         have hf':(es.map dV).toArray.find? (fun x=>x.born==s)=some en:=by rw[<- Array.find?_toList];exact h1
         refine⟨_,.tuple #[valOf 4 z.1,valOf 4 z.2.1],_,c,w,hp,.inl ?_,hr,.refl,nV (.pure (nc 4 _ hzs.1)) (.pure (nc 4 _ hzs.2))⟩;simp[execOp,ho,dS,Instr.entry,getObj,Sem.run,hw,hw',hb,hf',h2,h3]
        ·exact hp.elim
       ·exact hp.elim
      ·exact hp.elim
     ·exact hp.elim
    ·exact hp.elim
   ·exact hp.elim
  ·exact hp.elim
 ·exact hp.elim
theorem Ba(hr:cF c h w)(he:ER c h w e a.tmps){neg:Bool}{t yt el:TypeId}{x y:Operand}(ho:o.op= .binOp (if neg then .neq else .eql) t x y yt)(hu:P.underlying t=some (.slice el))
  (hp:bR P Γ (.Lo neg (aK x) (aK y)) e h k kp):eA P c h w a o k:=by
 simp only[bR,aM]at hp;have hx:=he.ev x;have hy:=he.ev y
 have fin: ∀(b:Bool) (s1 s2:Option Addr) (l1 c1 l2 c2:Nat),a.eval x= .slice s1 l1 c1->a.eval y= .slice s2 l2 c2->(s1=none/\b=s2.isNone\/(∃ q,s1=some q)/\s2=none/\b=false)->
   (execOp a.eval o).run P w= .ok (.value (.bool (if neg then !b else b))) w:=by
  intro b s1 s2 l1 c1 l2 c2 hx hy hh
  have h1:(Op.equal t (.slice s1 l1 c1) (.slice s2 l2 c2)).run P w= .ok b w:=by
   unfold Op.equal;rw[show Op.maxDepth=9999+1 from rfl];unfold Op.equalIn;rcases hh with⟨rfl,rfl⟩|⟨⟨q,rfl⟩,rfl,rfl⟩<;>simp[run_underlying hu]
  have h2:(eqGuard (if neg then .neq else .eql) t x y (a.eval x) (a.eval y)).run P w= .ok () w:=by
   unfold eqGuard;rw[hx,hy];cases neg<;>rfl
  have hb:(binOp (if neg then .neq else .eql) t (a.eval x) (a.eval y)).run P w= .ok (.bool (if neg then !b else b)) w:=by
   rw[hx,hy];cases neg<;>simp[binOp,h1]
  simp only[execOp,ho,Sem.run_bind,h2,Result.andThen_ok,hb];rfl
 have E7: ∀ {sz n:Nat} {get:Nat->SV} {v:Value},Nat.blt 0 n=true->VR c h w (.dm sz n get) v-> ∃q cc,v= .slice (some q) n cc:=fun{sz n get v} hn hv=>by
  cases hv with
  |pure hp=>
   cases hp with
   |oO=>cases hn
   |dm _ _ _ b off cap C ty fz hb hw hn hcap hc h=>exact⟨_,_,rfl⟩
 have live: ∀ {i g:Nat} {p:Prop},gx h i g p->p/\ ∃o,h.obj i=some o/\o.gen=g:=fun{i g p} hl=>by
  obtain⟨n,l⟩:=h;unfold gx at hl;simp only[bC]at hl;split at hl
  ·rename_i ob cK
   split at hl
   ·replace hl:=av.1 hl
    exact⟨hl.2,_,cK,Nat.eq_of_beq_eq_true hl.1⟩
   ·exact hl.elim
  ·exact hl.elim
 split at hp
 ·rename_i h1 h2
  rw[h1]at hx;rw[h2]at hy
  have:=fin true _ _ _ _ _ _ hx.cX hy.cX (.inl ⟨rfl,rfl⟩);cases neg<;>exact .of _ _ hp this .bool
 ·rename_i i g sz off len cap h1 h2
  rw[h1]at hx;rw[h2]at hy
  obtain⟨hp,ob,cK,hg⟩:=live hp;obtain⟨_,q,cc,F1,_⟩:=hy.iH cK hg;have:=fin false _ _ _ _ _ _ hx.cX F1 (.inl ⟨rfl,rfl⟩);cases neg<;>exact .of _ _ hp this .bool
 ·rename_i i g sz off len cap h1 h2
  rw[h1]at hx;rw[h2]at hy
  obtain⟨hp,ob,cK,hg⟩:=live hp;obtain⟨_,q,cc,dS,_⟩:=hx.iH cK hg;have:=fin false _ _ _ _ _ _ dS hy.cX (.inr ⟨⟨q,rfl⟩,rfl,rfl⟩);cases neg<;>exact .of _ _ hp this .bool
 ·rename_i sz n get h1 h2
  rw[h1]at hx;rw[h2]at hy
  replace hp:=av.1 hp
  obtain⟨q,cc,F1⟩:=E7 hp.1 hy;have:=fin false _ _ _ _ _ _ hx.cX F1 (.inl ⟨rfl,rfl⟩);cases neg<;>exact .of _ _ hp.2 this .bool
 ·rename_i sz n get h1 h2
  rw[h1]at hx;rw[h2]at hy
  replace hp:=av.1 hp
  obtain⟨q,cc,dS⟩:=E7 hp.1 hx;have:=fin false _ _ _ _ _ _ dS hy.cX (.inr ⟨⟨q,rfl⟩,rfl,rfl⟩);cases neg<;>exact .of _ _ hp.2 this .bool
 ·exact hp.elim
theorem ya: ∀ {l:List (Nat×aG)} {i:Nat} {o:aG},aV l i=some o->cO l i o=l
 | [],_,_,h=>by cases h
 |(s,p)::r,i,o,h=>by
  unfold aV at h;unfold cO;by_cases e:s=i
  ·rw[if_pos e]at h ⊢
   cases h;rfl
  ·rw[if_neg e]at h ⊢
   rw[ya h]
theorem HO{n:Nat}{l:List (Nat×aG)}(hr:cF c ⟨n,l⟩ w){ii g iE:Nat}{elems xs:List SV}{sk:Sk}{news:List Value}(cK:aV l ii=some (.vec g iE elems sk)){p0:Nat}(hL:LW c ⟨n,l⟩ w iE xs news)(h1: ∀u∈news,u.oneCell'=true)(hle:p0+xs.length<=elems.length):
  ∃w',(storeCells ⟨c.β ii,p0*iE,none⟩ news).run P w= .ok () w'/\cF c ⟨n,cO l ii (.vec g iE (fV elems p0 xs) sk)⟩ w'/\Ext c ⟨n,l⟩ w c ⟨n,cO l ii (.vec g iE (fV elems p0 xs) sk)⟩ w':=by
 cases hr.obj ii _ cK with
 |vec _ _ _ _ C ty fz hw xm heq hty hc hf hcell=>
  have hel: ∀p,(fV elems p0 xs)[p]? =if p0<=p/\p<p0+xs.length then xs[p-p0]? else elems[p]? :=fun p=>jh _ _ _ _ hle
  have hlen:=gh elems p0 xs;have e0:(p0+xs.length)*iE<=elems.length*iE:=Nat.mul_le_mul_right _ hle;rw[Nat.add_mul]at e0;obtain⟨w',C',hst,e1,e2,e3,e4,e5,e6,e7,e8⟩:=iN P (c.β ii) (p0*iE) ty fz news 0 C w hw hf (by right;rw[hL.1];omega) h1;have qT:w'.shape? (c.β ii)=w.shape? (c.β ii):=by simp only[World.shape?,e6,hw,e7]
  have JO:=AJ (n:=n) (elems':=fV elems p0 xs) (xo:=sk) cK (Nat.le_refl _) e1 e2 e3 e4 e5 qT
  have AO: ∀v∈fV elems p0 xs,v.cells.length=iE:=by
   intro v hv;obtain⟨p,hp⟩:=List.mem_iff_getElem?.1 hv;rw[hel]at hp;split at hp
   ·exact hL.2.1 v (List.mem_of_getElem? hp)
   ·exact hc v (List.mem_of_getElem? hp)
  refine⟨w',hst,AK hr cK JO e4 e5 e6 (by rw[hlen,e7];exact xm) (fun hs=>by rw[hlen,e7];exact heq hs) hty AO (by rw[e7];exact hf) (fun p j ee v z' uk hv F6=> ?_),JO⟩;have hj:j<iE:=by rw[<- AO ee (List.mem_of_getElem? uk)];exact fj hv
  rw[e8]at F6;simp only[Nat.add_zero]at F6;rw[hel]at uk;by_cases hin:p0<=p/\p<p0+xs.length
  ·rw[if_pos hin]at uk
   have e9:p*iE=p0*iE+(p-p0)*iE:=by rw[<- Nat.add_mul];congr 1;omega
   have hlt2:=qU (sz:=iE) (fj uk) hj;rw[if_pos (by rw[hL.1];omega)]at F6;refine hL.2.2 _ j ee v z' uk hv ?_;rw[<- F6];congr 1
   omega
  ·rw[if_neg hin]at uk
   have hout: ¬(p0*iE<=p*iE+j/\p*iE+j<p0*iE+news.length):=by
    intro⟨q1,q2⟩;rw[hL.1,<-Nat.add_mul]at q2;rcases Nat.lt_or_ge p p0 with hlt|hge
    ·have:=qU (sz:=iE) hlt hj
     omega
    ·have:p0+xs.length<=p:=by omega
     have:=Nat.mul_le_mul_right iE this;omega
   rw[if_neg hout]at F6;exact hcell p j ee v z' uk hv F6
theorem HP(hr:cF c h w)(he:ER c h w e a.tmps){cl:Call}{x:Operand}{t el:TypeId}{i:TypeInfo}{z:Value}(ho:o.op= .call cl)(fC:cl.callee= .builtin .clear)(hargs:cl.args.toList=[x])(je:cl.argTypes.toList=[t])
  (hu:P.underlying t=some (.slice el))(hi:P.info? el=some i)(hz:i.zero=some z)(hs:(bH 4 z).cells.length=i.size)(hk:(bH 4 z).known=true)
  (hp:bR P Γ (.Qz i.size (bH 4 z) (aK x)) e h k kp):jg P c h w a o k:=by
 simp only[bR,aM]at hp;have hx:=he.ev x;have dD:cl.args= #[x]:=by simpa using congrArg List.toArray hargs
 have kP:cl.argTypes= #[t]:=by simpa using congrArg List.toArray je
 have hrun: ∀w',(Builtin.clear_ #[t] o.type #[a.eval x]).run P w= .ok (.tuple #[]) w'->(execOp a.eval o).run P w= .ok (.value (.tuple #[])) w':=by
  intro w' hrun;simp[execOp,ho,resolve,fC,dD,kP,invoke,builtin,hrun]
 split at hp
 ·rename_i h1
  rw[h1]at hx;refine(eA.of _ (.tuple #[]) hp (hrun _ ?_) (.pure (.bn [] #[] rfl fun i v x hv=>by simp at hv))).does hr;rw[hx.cX];simp[Builtin.clear_,run_underlying hu]
 ·rename_i ii g sz' off len cap h1
  rw[h1]at hx
  replace hp:=av.1 hp
  obtain⟨hsz,hp⟩:=hp;have hsz:=Nat.eq_of_beq_eq_true hsz;subst hsz;obtain⟨n,l⟩:=h;simp only[bC]at hp;split at hp
  ·rename_i ob cK
   split at hp
   ·rename_i g' iE elems sk
    replace hp:=av.1 hp
    obtain⟨hg,hp⟩:=hp;have hg:=Nat.eq_of_beq_eq_true hg;subst hg;rw[kq]at hp
    replace hp:=av.1 hp
    obtain⟨hone,hp⟩:=hp;obtain⟨Ng,hp⟩:=fy.1 hp;rw[eW]at hp;obtain⟨gU,ad,cc,dS,hlc,hcap,ja⟩:=hx.iH (o:= .vec g' iE elems sk) cK rfl;simp only[aG.sz]at gU;subst gU;by_cases hl0:len=0
    ·subst hl0
     refine(eA.of _ (.tuple #[]) ?_ (hrun _ ?_) (.pure (.bn [] #[] rfl fun i v x hv=>by simp at hv))).does hr
     ·have hsame:cO l ii (.vec g' i.size (fV elems off (List.replicate 0 (bH 4 z))) sk)=l:=ya cK
      rw[hsame]at hp;exact hp
     ·rw[dS]
      simp[Builtin.clear_,run_underlying hu]
    ·have Ng:off+len<=elems.length:=by
      rcases Ng with h|h
      ·exact absurd (by simpa using h) hl0
      ·simpa using h
     have CT:VR c ⟨n,l⟩ w (bH 4 z) z:= .pure (eF 4 z);have hlr:=rP CT hk hs len
     have hL:LW c ⟨n,l⟩ w i.size (List.replicate len (bH 4 z)) ((Array.range (len*i.size)).map (z.cells[· %z.cells.size]!)).toList:=
      ⟨by rw[Array.length_toList];exact hlr.1,hlr.2.1,fun i j e v x h1 h2 h3=>hlr.2.2 i j e v x h1 h2 (by rw[<- Array.getElem?_toList];exact h3)⟩
     obtain⟨w',hst,hr',hx'⟩:=HO (P:=P) hr cK (p0:=off) hL (hL.one hone) (by simpa using Ng);rcases ja with h0|⟨rfl,ty,m,hsh,hle'⟩
     ·omega
     refine⟨_,.tuple #[],_,c,w',hp,.inl (hrun _ ?_),hr',hx',.pure (.bn [] #[] rfl fun i v x hv=>by simp at hv)⟩;rw[dS];have hzs:z.cells.size=i.size:=vQ hk hs
     have WM:Builtin.zeroCells z.cells len=(Array.range (len*i.size)).map (z.cells[· %z.cells.size]!):=by
      unfold Builtin.zeroCells;rw[hzs]
     cases len with
     |zero=>exact absurd rfl hl0
     |succ len=>
      have TG:(storeCells ⟨c.β ii,off*i.size,none⟩ (List.map (fun x=>z.cells[x%z.cells.size]!) (List.range ((len+1)*i.size)))).run P w= .ok () w':=by
       rw[<- hst];simp
      simp[Builtin.clear_,run_underlying hu,iL hi hz,WM,TG,Result.andThen_ok]
   ·exact hp.elim
  ·exact hp.elim
 ·exact hp.elim
end
end
end Ab
