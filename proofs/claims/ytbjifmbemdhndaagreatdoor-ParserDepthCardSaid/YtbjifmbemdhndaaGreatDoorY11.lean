/- Parts of the proof of PParserDepth, one behind the other, with short names. -/
import Derived.Test.YtbjifmbemdhndaaGreatDoorY10
import Derived.Maps.RangeRun
import Derived.MapKept
set_option linter.unusedVariables false
set_option linter.unusedSimpArgs false
namespace Ab
open Go
section
section
variable {P:Program} {Γ:bH} {c:Cx} {h:Heap} {w:World} {e:Env} {a:Act} {o:Oper} {k kp:SV->Heap->Prop}
def blk(w:World)(b:Nat)(ob:Obj):World:={w with heap:=w.heap.setIfInBounds b ob}
theorem zh{b:Nat}{ob:Obj}(hb:b<w.heap.size):(blk w b ob).heap[b]? =some ob:=by simp[blk,hb]
theorem Gc{b b':Nat}{ob:Obj}(hb:b'≠b):(blk w b ob).heap[b']? =w.heap[b']? :=by
 simp only[blk,Array.getElem?_setIfInBounds];rw[if_neg (fun e=>hb e.symm)]
theorem zi{b:Nat}{ob:Obj}:(blk w b ob).heap.size=w.heap.size:=by simp[blk]
def xJ:Obj->Bool
 | .cells .. =>false
 |_=>true
theorem zj{b:Nat}{ob:Obj}(h:w.heap[b]? =some ob)(hn:xJ ob=true):w.shape? b=none:=by
 unfold World.shape?;rw[h];cases ob<;>first|rfl|cases hn
theorem qn{n:Nat}{l:List (Nat×aA)}(hr:bP c ⟨n,l⟩ w){i:Nat}{o0 o1:aA}{b0 b1:Obj}(ho:aG l i=some o0)(hg:o0.gen=o1.gen)(hs:o0.sz=o1.sz)(h0:w.heap[c.β i]? =some b0)(n0:xJ b0=true)(n1:xJ b1=true)
  (gS:Ext c ⟨n,l⟩ w c ⟨n,bC l i o1⟩ (blk w (c.β i) b1)->(blk w (c.β i) b1).heap[c.β i]? =some b1->OR c ⟨n,bC l i o1⟩ (blk w (c.β i) b1) (c.β i) o1):
  bP c ⟨n,bC l i o1⟩ (blk w (c.β i) b1)/\Ext c ⟨n,l⟩ w c ⟨n,bC l i o1⟩ (blk w (c.β i) b1):=by
 have hlt:c.β i<w.heap.size:=(hr.obj i o0 ho).lt;have hx:Ext c ⟨n,l⟩ w c ⟨n,bC l i o1⟩ (blk w (c.β i) b1):=DE hr ho hg hs rfl rfl rfl zi (fun b' hb=>Gc hb) (by rw[zj (zh hlt) n1,zj h0 n0]);exact⟨DF hr ho hx zi (fun b' hb=>Gc hb) (gS hx (zh hlt)),hx⟩
theorem DH{u:SV}{x:Value}(hu:VR c h w u x):VR c h w (.aN [u]) (.tuple #[x]):= .aN _ _ rfl fun i v y hv hy=>by
 cases i with
 |zero=>simp at hv hy;subst hv;subst hy;exact hu
 |succ i=>simp at hv
theorem mz{u v:SV}{x y:Value}(hu:VR c h w u x)(hv:VR c h w v y):VR c h w (.aN [u,v]) (.tuple #[x,y]):= .aN _ _ rfl fun i a b ha hb=>by
 rcases i with _|_|i
 ·simp at ha hb;subst ha;subst hb;exact hu
 ·simp at ha hb;subst ha;subst hb;exact hv
 ·simp at ha
theorem DI{u v t:SV}{x y z:Value}(hu:VR c h w u x)(hv:VR c h w v y)(ht:VR c h w t z):VR c h w (.aN [u,v,t]) (.tuple #[x,y,z]):= .aN _ _ rfl fun i a b ha hb=>by
 rcases i with _|_|_|i
 ·simp at ha hb;subst ha;subst hb;exact hu
 ·simp at ha hb;subst ha;subst hb;exact hv
 ·simp at ha hb;subst ha;subst hb;exact ht
 ·simp at ha
theorem DJ:VR c h w (.aN []) (.tuple #[]):= .pure (.aN _ _ rfl fun i v x hv=>by simp at hv)
theorem zk(hr:bP c h w)(he:ER c h w e a.tmps){t:TypeId}{x:Operand}(ho:o.op= .range t x)(hu:P.underlying t=some .string)(hp:bw P Γ (.rj (aC x)) e h k kp):gZ P c h w a o k:=by
 simp only[bw,aE]at hp;have hx:=he.ev x;obtain⟨n,l⟩:=h;split at hp
 ·rename_i s n' l' hev hh
  cases hh
  rw[hev]at hx;have cX:=hx.eu;refine⟨_,.pointer (some ⟨w.heap.size,0,none⟩),_,c.push n w.heap.size,w.alloc (.stringIter ⟨s.toArray⟩ 0),hp,.inl ?_,iG hr _ _ (.iter s 0 (dF _ _)),ef hr _ _,?_⟩
  ·simp[execOp,ho,cX,Instr.range,run_underlying hu,run_newObj_alloc]
  ·exact .ref _ _ _ _ _ ⟨_,rfl⟩ (Nat.lt_succ_self _) (fun _ _=>Nat.zero_le _) fun o' ho' _=>by simp[Cx.push]
 ·exact hp.elim
theorem BG(hr:bP c h w)(he:ER c h w e a.tmps){x:Operand}(ho:o.op= .next x true)(hp:bw P Γ (.vK (aC x)) e h k kp):gZ P c h w a o k:=by
 simp only[bw,aE]at hp;have hx:=he.ev x;obtain⟨n,l⟩:=h;split at hp
 ·rename_i i g idx sub m hl hev hh
  cases hh
  rw[hev]at hx
  replace hp:=ah.1 hp
  obtain⟨hc,hp⟩:=hp;simp only[Bool.and_eq_true]at hc;obtain rfl:=Nat.eq_of_beq_eq_true hc.1;obtain rfl:=Nat.eq_of_beq_eq_true hc.2.1;obtain rfl:=Nat.eq_of_beq_eq_true hc.2.2;simp only[aW]at hp;split at hp
  ·rename_i ob bS
   split at hp
   ·rename_i s pos
    have cX:=hx.ey (o:= .iter s pos) bS rfl;simp only[aA.sz,Nat.mul_zero,Nat.zero_add]at cX;cases hr.obj i _ bS with
    |iter _ _ hw=>
     have hsz:(⟨s.toArray⟩:ByteArray).size=s.length:=by simp[ByteArray.size]
     rcases xB hp with⟨hb,hp⟩|⟨hb,hp⟩
     ·have hlt:pos<s.length:=Nat.le_of_ble_eq_true hb
      obtain⟨cc,wd,O9⟩: ∃cc wd,Utf8.decode ⟨s.toArray⟩ pos=(cc,wd):=⟨_,_,rfl⟩;rw[O9]at hp;dsimp only at hp;rw[dU]at hp;have hd:=qn (o1:= .iter s (pos+wd)) (b1:= .stringIter ⟨s.toArray⟩ (pos+wd)) hr bS rfl rfl hw rfl rfl (fun _ h=> .iter _ _ h);refine⟨_,.tuple #[.bool true,goInt pos,.int .i32 cc],_,c,blk w (c.β i) (.stringIter ⟨s.toArray⟩ (pos+wd)),hp,.inl ?_,hd.1,hd.2,DI .bool .int .int⟩;simp only[execOp,ho,cX,Instr.next,getObj,Sem.run_bind,Sem.run,hw,Result.andThen_ok,Result.andThen,hsz,hlt,if_true,O9,setObj,blk];rfl
     ·have hge: ¬pos<s.length:=fun hlt=>by
       have:Nat.blt pos s.length=true:=by show Nat.ble (pos+1) s.length=true;rw[Nat.ble_eq];exact hlt
       rw[this]at hb;cases hb
      refine⟨_,.tuple #[.bool false],_,c,w,hp,.inl ?_,hr,.refl,DH .bool⟩;simp only[execOp,ho,cX,Instr.next,getObj,Sem.run_bind,Sem.run,hw,Result.andThen_ok,Result.andThen,hsz,hge,if_false];rfl
   ·exact hp.elim
  ·exact hp.elim
 ·exact hp.elim
theorem BH(hr:bP c h w){t:TypeId}(ho:o.op= .makeMap t none)(hp:bw P Γ .mkMap e h k kp):gZ P c h w a o k:=by
 simp only[bw]at hp;obtain⟨n,l⟩:=h;refine⟨_,.map (some w.heap.size),_,c.push n w.heap.size,w.alloc (.map #[] 0),hp,.inl ?_,iG hr _ _ (.map [] 0 (dF _ _) (by simp)),ef hr _ _,?_⟩
 ·simp[execOp,ho,Instr.makeMap,run_newObj_alloc]
 ·exact .cJ _ _ _ ⟨_,rfl⟩ (Nat.lt_succ_self _) (fun _ _=>Nat.zero_le _) fun o' ho' _=>by simp[Cx.push]
theorem zl(hr:bP c h w)(he:ER c h w e a.tmps){t kt et:TypeId}{x:Operand}(ho:o.op= .range t x)(hu:P.underlying t=some (.map kt et))(hp:bw P Γ (.o7 (aC x)) e h k kp):gZ P c h w a o k:=by
 simp only[bw,aE]at hp;have hx:=he.ev x;obtain⟨n,l⟩:=h;split at hp
 ·rename_i n' l' hev hh
  cases hh
  rw[hev]at hx;have cX:=hx.lD;refine⟨_,.pointer (some ⟨w.heap.size,0,none⟩),_,c.push n w.heap.size,w.alloc (.mapIter none 0 #[] 0),hp,.inl ?_,iG hr _ _ (.bU .fD 0 [] 0 none (dF _ _) (.pure .fD)),ef hr _ _,?_⟩
  ·simp[execOp,ho,cX,Instr.range,run_underlying hu,run_newObj_alloc]
  ·exact .ref _ _ _ _ _ ⟨_,rfl⟩ (Nat.lt_succ_self _) (fun _ _=>Nat.zero_le _) fun o' ho' _=>by simp[Cx.push]
 ·rename_i i g n' l' hev hh
  cases hh
  rw[hev]at hx;simp only[aW]at hp;split at hp
  ·rename_i ob bS
   split at hp
   ·rename_i es cl
    replace hp:=ah.1 hp
    obtain⟨hg,hp⟩:=hp;obtain rfl:=Nat.eq_of_beq_eq_true hg;have cX:=hx.lE (o:= .map es cl) bS rfl;cases hr.obj i _ bS with
    |map _ _ hw hs=>
     refine⟨_,.pointer (some ⟨w.heap.size,0,none⟩),_,c.push n w.heap.size,w.alloc (.mapIter (some (c.β i)) cl #[] cl),hp,.inl ?_,iG hr _ _ (.bU _ cl [] cl _ (dF _ _) ?_),ef hr _ _,?_⟩
     ·simp[execOp,ho,cX,Instr.range,run_underlying hu,getObj,Sem.run,hw,run_newObj_alloc]
     ·rw[<- cX];exact hx.mono hr (ef hr _ _)
     ·exact .ref _ _ _ _ _ ⟨_,rfl⟩ (Nat.lt_succ_self _) (fun _ _=>Nat.zero_le _) fun o' ho' _=>by simp[Cx.push]
   ·exact hp.elim
  ·exact hp.elim
 ·exact hp.elim
def kindOk(b:Bool)(kd:TypeDesc):Prop:=match b with|true=>kd= .string|false=> ∃q,kd= .int q
theorem EW{isStr:Bool}{kd:TypeDesc}(Be:kindOk isStr kd){kk x:SV}(hk:vg isStr kk=true){b:Bool}(he:vN kk x=some b):Instr.sameNow kd (valOf 4 kk) (valOf 4 x)=some b:=by
 unfold vN at he;split at he
 ·rename_i s t
  cases he
  cases isStr with
  |true=>
   subst Be;show some (_==_)=_;congr 1
   rw[Bool.eq_iff_iff,Go.MapKept.bytes_beq,beq_iff_eq];exact⟨fun h=>by have:=congrArg (fun b:ByteArray=>b.data.toList) h;simpa using this,fun h=>by rw[h]⟩
  |false=>cases hk
 ·rename_i q m q' m'
  split at he
  ·rename_i hq
   cases he
   cases isStr with
   |true=>cases hk
   |false=>
    obtain⟨q2,rfl⟩:=Be;show(if q=q' then some (m==m')else none)=_;rw[if_pos (mo.1 hq)]
  ·cases he
 ·cases he
theorem rA{isStr:Bool}{kd:TypeDesc}(Be:kindOk isStr kd){kk:SV}(hk:vg isStr kk=true): ∀ {es:List (SV×SV×Nat)} {i:Nat} {K:Option (Nat×SV)->Prop},oK kk es i K->
  ∃r,K r/\Instr.findNow kd (valOf 4 kk) (es.map cY) i=some (r.map fun p=>(p.1,valOf 4 p.2))/\ ∀j v,r=some (j,v)->i<=j/\ ∃x s,es[j-i]? =some (x,v,s)/\vN kk x=some true
 | [],i,K,hp=>⟨none,hp,rfl,fun j v h=>by cases h⟩
 |(x,v,s)::r,i,K,hp=>by
  unfold oK at hp;split at hp
  ·rename_i b hb
   have hn:=EW Be hk hb;rcases xB hp with⟨rfl,hp⟩|⟨rfl,hp⟩
   ·refine⟨_,hp,?_,fun j v' h=> ?_⟩
    ·simp only[List.map_cons,cY,Instr.findNow,hn]
     rfl
    ·cases h
     exact⟨Nat.le_refl _,x,s,by simp,hb⟩
   ·obtain⟨r',h1,h2,h3⟩:=rA Be hk hp
    refine⟨r',h1,?_,fun j v' h=> ?_⟩
    ·simp only[List.map_cons,cY,Instr.findNow,hn]
     exact h2
    ·obtain⟨h4,x',s',h5,h6⟩:=h3 j v' h
     refine⟨by omega,x',s',?_,h6⟩;rw[show j-i=(j-(i+1))+1 by omega,List.getElem?_cons_succ];exact h5
  ·exact hp.elim
theorem vX{t:TypeId}{b:Bool}(h:EE P t=some b): ∃kd,P.underlying t=some kd/\kindOk b kd:=by
 unfold EE at h;split at h
 ·rename_i hu;cases h;exact⟨_,hu,rfl⟩
 ·rename_i q hu;cases h;exact⟨_,hu,q,rfl⟩
 ·cases h
theorem zm{isStr:Bool}{kk:SV}(hk:vg isStr kk=true){x:Value}(hx:VR c h w kk x):x=valOf 4 kk:=by
 unfold vg at hk;split at hk
 ·exact hx.eu
 ·exact hx.bF
 ·cases hk
theorem oh{b empty:Bool}{kt:TypeId}{kd:TypeDesc}(hu:P.underlying kt=some kd)(Be:kindOk b kd)(x:Value):(Instr.checkKey empty 10000 kt x).run P w= .ok () w:=by
 have:(10000:Nat)=9999+1:=rfl;rw[this];unfold Instr.checkKey;cases b with
 |true=>subst Be;simp[run_underlying hu]
 |false=>obtain⟨q,rfl⟩:=Be;simp[run_underlying hu]
theorem qo{kt:TypeId}{kd:TypeDesc}(hu:P.underlying kt=some kd){kx:Value}{es:List MapEntry}{r:Option (Nat×Value)}(h:Instr.findNow kd kx es 0=some r):(Instr.findKey kt kx es).run P w= .ok r w:=by
 unfold Instr.findKey;simp[run_underlying hu,h]
theorem zn(hr:bP c h w)(he:ER c h w e a.tmps){isStr ok:Bool}{t kt et:TypeId}{m x:Operand}{i:TypeInfo}{z:Value}(ho:o.op= .lookup t m x ok)(hu:P.underlying t=some (.map kt et))(ID:EE P kt=some isStr)(hi:P.info? et=some i)(hz:i.zero=some z)(IE:ec 4 (bf 4 z)=true)
  (hp:bw P Γ (.gW isStr (bf 4 z) ok (aC m) (aC x)) e h k kp):dM P c h w a o k:=by
 simp only[bw,aE]at hp;have hm:=he.ev m;have hx:=he.ev x;obtain⟨kd,Gd,Be⟩:=vX ID;have Bt:VR c h w (bf 4 z) z:= .pure (dR 4 z);obtain⟨n,l⟩:=h;have Pa:(zeroValue et).run P w= .ok z w:=gK hi hz;split at hp
 ·rename_i hev
  rw[hev]at hm
  replace hp:=ah.1 hp
  obtain⟨J9,hp⟩:=hp;have hme:=hm.lD
  have hrun:(Instr.lookup t (a.eval m) (a.eval x) ok).run P w= .ok (if ok then .tuple #[z,.bool false]else z) w:=by
   have h0:=qo (P:=P) (w:=w) (es:=[]) Gd (kx:=a.eval x) (r:=none) rfl;unfold Instr.lookup;simp only[Sem.run_bind,run_underlying hu,Result.andThen_ok,hme,Sem.run_pure,oh Gd Be,Array.toList_empty,h0];cases ok<;>simp[Pa]
  cases ok
  ·exact .of _ _ hp (by simp only[execOp,ho,Sem.run_bind,hrun];rfl) Bt
  ·exact .of _ _ hp (by simp only[execOp,ho,Sem.run_bind,hrun];rfl) (mz Bt .bool)
 ·rename_i ii g n' l' hev hh
  cases hh
  rw[hev]at hm;simp only[aW]at hp;split at hp
  ·rename_i ob bS
   split at hp
   ·rename_i es cl
    replace hp:=ah.1 hp
    obtain⟨hc,hp⟩:=hp;simp only[Bool.and_eq_true]at hc;obtain⟨hg,J9⟩:=hc;obtain rfl:=Nat.eq_of_beq_eq_true hg;have hme:=hm.lE (o:= .map es cl) bS rfl;cases hr.obj ii _ bS with
    |map _ _ hw hs=>
     obtain⟨r,hp,hfind,EX⟩:=rA Be J9 hp;rw[<- zm J9 hx]at hfind
     have hrun:(Instr.lookup t (a.eval m) (a.eval x) ok).run P w= .ok (match r with|some p=>if ok then .tuple #[valOf 4 p.2,.bool true]else valOf 4 p.2|none=>if ok then .tuple #[z,.bool false]else z) w:=by
      unfold Instr.lookup;simp only[Sem.run_bind,run_underlying hu,Result.andThen_ok,hme,getObj,Sem.run,hw,Result.andThen,Sem.run_pure,oh Gd Be];rw[qo Gd (r:=r.map fun p=>(p.1,valOf 4 p.2)) (by simpa using hfind)];cases r with
      |none=>cases ok<;>simp[Pa]
      |some p=>cases ok<;>simp
     cases r with
     |none=>
      cases ok
      ·exact .of _ _ hp (by simp only[execOp,ho,Sem.run_bind,hrun];rfl) Bt
      ·exact .of _ _ hp (by simp only[execOp,ho,Sem.run_bind,hrun];rfl) (mz Bt .bool)
     |some p=>
      obtain⟨j,v⟩:=p;obtain⟨_,xk,s,Rq,_⟩:=EX j v rfl;have hv:VR c ⟨n,l⟩ w v (valOf 4 v):= .pure (lF 4 v (hs _ (List.mem_of_getElem? Rq)));cases ok
      ·exact .of _ _ hp (by simp only[execOp,ho,Sem.run_bind,hrun];rfl) hv
      ·exact .of _ _ hp (by simp only[execOp,ho,Sem.run_bind,hrun];rfl) (mz hv .bool)
   ·exact hp.elim
  ·exact hp.elim
 ·exact hp.elim
theorem Ge{es:List (SV×SV×Nat)}{k v:SV}: ∀ {j:Nat},(EC es j k v).map cY=(es.map cY).modify j (fun e=>{e with key:=valOf 4 k,val:=valOf 4 v}):=by
 induction es with
 |nil=>intro j;cases j<;>rfl
 |cons p r ih=>
  intro j;obtain⟨a,u,s⟩:=p;cases j with
  |zero=>rfl
  |succ j=>
   show cY (a,u,s)::(EC r j k v).map cY=_;rw[ih];rfl
theorem BI{es:List (SV×SV×Nat)}{k v:SV}(hv:ec 4 v=true): ∀ {j:Nat},(∀ p∈es,ec 4 p.2.1=true)-> ∀p∈EC es j k v,ec 4 p.2.1=true:=by
 induction es with
 |nil=>intro j _ p hp;cases j<;>cases hp
 |cons q r ih=>
  intro j hs p hp;obtain⟨a,u,s⟩:=q;cases j with
  |zero=>
   rcases List.mem_cons.1 hp with rfl|hp
   ·exact hv
   ·exact hs p (by simp[hp])
  |succ j=>
   rcases List.mem_cons.1 hp with rfl|hp
   ·exact hs _ (by simp)
   ·exact ih (fun p hp=>hs p (by simp[hp])) p hp
theorem BJ{isStr:Bool}{kk x:SV}(hk:vg isStr kk=true)(he:vN kk x=some true):valOf 4 x=valOf 4 kk:=by
 unfold vN at he;split at he
 ·rename_i s t
  have:s=t:=by simpa using he
  subst this;rfl
 ·rename_i q m q' m'
  split at he
  ·rename_i hq
   have h1:=mo.1 hq;have:m=m':=by simpa using he
   subst h1;subst this;rfl
  ·cases he
 ·cases he
theorem Gf{isStr:Bool}{kk:SV}(hk:vg isStr kk=true):Instr.sameBits 10000 (valOf 4 kk) (valOf 4 kk)=true:=by
 unfold vg at hk;split at hk
 ·exact(Go.MapKept.bytes_beq _ _).2 rfl
 ·show((_:IntKind)==_&&(_:Int)==_)=true;simp
 ·cases hk
theorem sw(hr:bP c h w)(he:ER c h w e a.tmps){isStr:Bool}{t kt et:TypeId}{m x y:Operand}(ho:o.op= .mapUpdate t m x y\/o.op= .insert t m x y)(hu:P.underlying t=some (.map kt et))(ID:EE P kt=some isStr)
  (hp:bw P Γ (.bM isStr (aC m) (aC x) (aC y)) e h k kp):gZ P c h w a o k:=by
 simp only[bw,aE]at hp;have hm:=he.ev m;have hx:=he.ev x;have hy:=he.ev y;obtain⟨kd,Gd,Be⟩:=vX ID;obtain⟨n,l⟩:=h;split at hp
 ·rename_i ii g n' l' hev hh
  cases hh
  rw[hev]at hm;simp only[aW]at hp;split at hp
  ·rename_i ob bS
   split at hp
   ·rename_i es cl
    replace hp:=ah.1 hp
    obtain⟨hc,hp⟩:=hp;simp only[Bool.and_eq_true]at hc;obtain⟨hg,J9,IE⟩:=hc;obtain rfl:=Nat.eq_of_beq_eq_true hg;have hme:=hm.lE (o:= .map es cl) bS rfl;have EL:=yM 4 _ _ IE hy;have cX:=zm J9 hx;cases hr.obj ii _ bS with
    |map _ _ hw hs=>
     obtain⟨r,hp,hfind,EX⟩:=rA Be J9 hp
     have hex:(execOp a.eval o).run P w=((Instr.mapUpdate t (a.eval m) (a.eval x) (a.eval y)).run P w).andThen fun _ w=> .ok .skip w:=by
      rcases ho with ho|ho<;>(simp only[execOp,ho,Sem.run_bind];rfl)
     cases r with
     |none=>
      dsimp only at hp;rw[dU]at hp
      have hd:=qn (o1:= .map (es++[((aC x).ev e,(aC y).ev e,cl)]) (cl+1)) (b1:= .map ((es.map cY).toArray.push ⟨a.eval x,a.eval y,cl⟩) (cl+1)) hr bS rfl rfl hw rfl rfl (fun _ h=> .map _ _ (by
       rw[h,cX,EL]
       simp[cY]) (fun p hp=>by
        rcases List.mem_append.1 hp with hp|hp
        ·exact hs p hp
        ·simp only[List.mem_singleton]at hp;subst hp;exact IE))
      refine⟨_,undef,_,c,_,hp,.inr ⟨?_,rfl⟩,hd.1,hd.2,DJ⟩;rw[hex];unfold Instr.mapUpdate;simp only[Sem.run_bind,run_underlying hu,Result.andThen_ok,hme,getObj,Sem.run,hw,Result.andThen,oh Gd Be];rw[qo Gd (r:=none) (by rw[cX];simpa using hfind)];simp[setObj,Sem.run,hw,blk]
     |some p=>
      obtain⟨j,v⟩:=p;obtain⟨_,xk,s,Rq,hsame⟩:=EX j v rfl;rw[Nat.sub_zero]at Rq;dsimp only at hp;rw[dU]at hp
      have hd:=qn (o1:= .map (EC es j ((aC x).ev e) ((aC y).ev e)) cl) (b1:= .map ((es.map cY).toArray.modify j fun q=>{q with key:=a.eval x,val:=a.eval y}) cl) hr bS rfl rfl hw rfl rfl (fun _ h=> .map _ _ (by
       rw[h,Ge,cX,EL];simp) (BI IE hs))
      refine⟨_,undef,_,c,_,hp,.inr ⟨?_,rfl⟩,hd.1,hd.2,DJ⟩;rw[hex]
      have hold:(((es.map cY).toArray[j]?).map (·.key)).getD (a.eval x)=a.eval x:=by
       simp[Rq,cY,cX,BJ J9 hsame]
      unfold Instr.mapUpdate;simp only[Sem.run_bind,run_underlying hu,Result.andThen_ok,hme,getObj,Sem.run,hw,Result.andThen,oh Gd Be];rw[qo Gd (r:=some (j,valOf 4 v)) (by rw[cX];simpa using hfind)]
      have Pb:(Instr.keyThatStays (a.eval x) (a.eval x)).run P w= .ok (a.eval x) w:=by
       unfold Instr.keyThatStays;rw[cX,Gf J9];simp
      simp only[Result.andThen_ok,hold,Pb,Sem.run_bind];simp[setObj,Sem.run,hw,blk]
   ·exact hp.elim
  ·exact hp.elim
 ·exact hp.elim
theorem EY(hr:bP c h w)(he:ER c h w e a.tmps){cl:Call}{x:Operand}{t kt et:TypeId}(ho:o.op= .call cl)(eI:cl.callee= .builtin .len)(hargs:cl.args.toList=[x])(gY:cl.argTypes.toList=[t])(hu:P.underlying t=some (.map kt et))
  (hp:bw P Γ (.Bj (aC x)) e h k kp):dM P c h w a o k:=by
 simp only[bw,aE]at hp;have hx:=he.ev x;obtain⟨n,l⟩:=h;have cM:cl.args= #[x]:=by simpa using congrArg List.toArray hargs
 have jd:cl.argTypes= #[t]:=by simpa using congrArg List.toArray gY
 split at hp
 ·rename_i hev
  rw[hev]at hx;refine .of _ _ hp ?_ .int;simp[execOp,ho,resolve,eI,cM,jd,invoke,builtin,Builtin.len_,run_underlying hu,hx.lD,goInt]
 ·rename_i ii g n' l' hev hh
  cases hh
  rw[hev]at hx;simp only[aW]at hp;split at hp
  ·rename_i ob bS
   split at hp
   ·rename_i es c2
    replace hp:=ah.1 hp
    obtain⟨hg,hp⟩:=hp;obtain rfl:=Nat.eq_of_beq_eq_true hg;have cX:=hx.lE (o:= .map es c2) bS rfl;cases hr.obj ii _ bS with
    |map _ _ hw hs=>
     refine .of _ _ hp ?_ .int;simp[execOp,ho,resolve,eI,cM,jd,invoke,builtin,Builtin.len_,run_underlying hu,cX,getObj,Sem.run,hw,goInt]
   ·exact hp.elim
  ·exact hp.elim
 ·exact hp.elim
theorem EZ(he:ER c h w e a.tmps){ok:Bool}{t xt:TypeId}{x:Operand}{i:TypeInfo}{z:Value}{d:TypeDesc}(ho:o.op= .typeAssert x xt t ok)(hu:P.underlying t=some d)(hd: ∀ms,d≠ .interface ms)(hi:P.info? t=some i)(hz:i.zero=some z)
  (hp:bw P Γ (.yN t (bf 4 z) ok (aC x)) e h k kp):dM P c h w a o k:=by
 simp only[bw,aE]at hp;have hx:=he.ev x;have Bt:VR c h w (bf 4 z) z:= .pure (dR 4 z);have Pa:(zeroValue t).run P w= .ok z w:=gK hi hz;split at hp
 ·rename_i u v hev
  rw[hev]at hx;obtain⟨y,cX,hv⟩:=hx.fR;rcases xB hp with⟨hb,ru⟩|⟨hb,hp⟩
  ·clear hp
   obtain rfl:=Nat.eq_of_beq_eq_true hb;rcases xB ru with⟨rfl,hp⟩|⟨rfl,hp⟩
   ·refine .of _ _ hp ?_ (mz hv .bool)
    cases d<;>first|exact absurd rfl (hd _)|simp[execOp,ho,cX,Instr.typeAssert,run_underlying hu]
   ·refine .of _ _ hp ?_ hv
    cases d<;>first|exact absurd rfl (hd _)|simp[execOp,ho,cX,Instr.typeAssert,run_underlying hu]
  ·have hne: ¬u=t:=fun h=>by subst h;rw[Nat.beq_refl]at hb;cases hb
   rcases xB hp with⟨rfl,hp⟩|⟨rfl,hp⟩
   ·refine .of _ _ hp ?_ (mz Bt .bool)
    cases d<;>first|exact absurd rfl (hd _)|simp[execOp,ho,cX,Instr.typeAssert,run_underlying hu,hne,Pa]
   ·exact hp.elim
 ·rename_i hev
  rw[hev]at hx;have cX:=hx.iE;rcases xB hp with⟨rfl,hp⟩|⟨rfl,hp⟩
  ·refine .of _ _ hp ?_ (mz Bt .bool)
   cases d<;>first|exact absurd rfl (hd _)|simp[execOp,ho,cX,Instr.typeAssert,run_underlying hu,Pa]
  ·exact hp.elim
 ·exact hp.elim
theorem zo(he:ER c h w e a.tmps){neg:Bool}{t yt:TypeId}{x y:Operand}{ms:Array (String×TypeId)}(ho:o.op= .binOp (if neg then .neq else .eql) t x y yt)(hu:P.underlying t=some (.interface ms))(R2:(isConst x||isConst y)=true)
  (hp:bw P Γ (.FX neg (aC x) (aC y)) e h k kp):dM P c h w a o k:=by
 simp only[bw,aE]at hp;have hx:=he.ev x;have hy:=he.ev y
 have IF: ∀(xx yy:Value) (b:Bool),(xx= .nilIface/\yy= .nilIface/\b=true)\/(xx= .nilIface/\(∃ u v,yy= .iface u v)/\b=false)\/((∃ u v,xx= .iface u v)/\yy= .nilIface/\b=false)->(Op.equal t xx yy).run P w= .ok b w:=by
  intro xx yy b hh;unfold Op.equal;rw[show Op.maxDepth=9999+1 from rfl];unfold Op.equalIn;rcases hh with⟨rfl,rfl,rfl⟩|⟨rfl,⟨u,v,rfl⟩,rfl⟩|⟨⟨u,v,rfl⟩,rfl,rfl⟩<;>simp[run_underlying hu]
 have jq: ∀(op:BinOp) (xx yy:Value),(xx= .nilIface/\yy= .nilIface)\/(xx= .nilIface/\(∃ u v,yy= .iface u v))\/((∃ u v,xx= .iface u v)/\yy= .nilIface)->(eqGuard op t x y xx yy).run P w= .ok () w:=by
  intro op xx yy hh;unfold eqGuard;rcases hh with⟨rfl,rfl⟩|⟨rfl,u,v,rfl⟩|⟨⟨u,v,rfl⟩,rfl⟩
  ·clear hp hx hy ho
   cases op<;>first|rfl|(cases x<;>cases y<;>first|rfl|(simp[isConst]at R2))
  ·cases op<;>rfl
  ·cases op<;>rfl
 have fin: ∀(b:Bool),(a.eval x= .nilIface/\a.eval y= .nilIface/\b=true)\/(a.eval x= .nilIface/\(∃ u v,a.eval y= .iface u v)/\b=false)\/((∃ u v,a.eval x= .iface u v)/\a.eval y= .nilIface/\b=false)->
   (execOp a.eval o).run P w= .ok (.value (.bool (if neg then !b else b))) w:=by
  intro b hh;have h1:=IF _ _ b hh;have h2:=jq (if neg then .neq else .eql) (a.eval x) (a.eval y) (by rcases hh with⟨p,q,_⟩|⟨p,q,_⟩|⟨p,q,_⟩;exact .inl ⟨p,q⟩;exact .inr (.inl ⟨p,q⟩);exact .inr (.inr ⟨p,q⟩))
  have hb:(binOp (if neg then .neq else .eql) t (a.eval x) (a.eval y)).run P w= .ok (.bool (if neg then !b else b)) w:=by
   rcases hh with⟨p,q,_⟩|⟨p,⟨u,v,q⟩,_⟩|⟨⟨u,v,p⟩,q,_⟩<;>(rw[p,q]at h1 ⊢;cases neg<;>simp[binOp,h1])
  simp only[execOp,ho,Sem.run_bind,h2,Result.andThen_ok,hb];rfl
 split at hp
 ·rename_i h1 h2
  rw[h1]at hx;rw[h2]at hy
  have:=fin true (.inl ⟨hx.iE,hy.iE,rfl⟩);cases neg<;>exact .of _ _ hp this .bool
 ·rename_i u v h1 h2
  rw[h1]at hx;rw[h2]at hy
  obtain⟨yy,EL,_⟩:=hy.fR;have:=fin false (.inr (.inl ⟨hx.iE,⟨_,_,EL⟩,rfl⟩));cases neg<;>exact .of _ _ hp this .bool
 ·rename_i u v h1 h2
  rw[h1]at hx;rw[h2]at hy
  obtain⟨yy,EL,_⟩:=hx.fR;have:=fin false (.inr (.inr ⟨⟨_,_,EL⟩,hy.iE,rfl⟩));cases neg<;>exact .of _ _ hp this .bool
 ·exact hp.elim
theorem nJ(he:ER c h w e a.tmps)(len cap:Nat){lo hi:Option Operand}{mx:Operand}{K:Int->Int->Int->Prop}(hp:gb e 0 (lo.map aC) fun l=>gb e len (hi.map aC) fun hh=>gb e 0 (some (aC mx)) fun mm=>K l hh mm):
  ∃l hh mm,K l hh mm/\(hi≠none->0<=l->l<=hh->hh<=mm->mm<=cap->(Instr.sliceBounds true len cap (lo.map a.eval) (hi.map a.eval) (some (a.eval mx))).run P w= .ok (l.toNat,hh.toNat,mm.toNat) w):=by
 have hm: ∀ {K:Int->Prop},gb e 0 (some (aC mx)) K-> ∃kk n,K n/\a.eval mx= .int kk n:=by
  intro K hk;rcases jv he (x:=some mx) hk with⟨h,_⟩|⟨y,kk,n,h,hy,hk⟩
  ·cases h
  ·cases h;exact⟨kk,n,hk,hy⟩
 rcases jv he hp with⟨rfl,Lz⟩|⟨y,kk,n,rfl,hy,Lz⟩
 ·rcases jv he Lz with⟨rfl,ru⟩|⟨y,kk,n,rfl,hy,ru⟩
  ·obtain⟨_,mm,LJ,_⟩:=hm ru
   exact⟨_,_,_,LJ,fun h=>absurd rfl h⟩
  ·obtain⟨k3,mm,LJ,h3⟩:=hm ru
   refine⟨_,_,_,LJ,fun _ h0 h1 h2 h4=> ?_⟩;have e1:=fV (P:=P) (w:=w) (kk:=k3) .slice3Acap (show 0<=mm by omega) (show mm<=(cap:Int) by omega);have e2:=fV (P:=P) (w:=w) (kk:=kk) (y:=mm.toNat) .slice3B (show 0<=n by omega) (by omega);simp[Instr.sliceBounds,hy,h3,e1,e2]
 ·rcases jv he Lz with⟨rfl,ru⟩|⟨y2,Ue,n2,rfl,LA,ru⟩
  ·obtain⟨_,mm,LJ,_⟩:=hm ru
   exact⟨_,_,_,LJ,fun h=>absurd rfl h⟩
  ·obtain⟨k3,mm,LJ,h3⟩:=hm ru
   refine⟨_,_,_,LJ,fun _ h0 h1 h2 h4=> ?_⟩;have e1:=fV (P:=P) (w:=w) (kk:=k3) .slice3Acap (show 0<=mm by omega) (show mm<=(cap:Int) by omega);have e2:=fV (P:=P) (w:=w) (kk:=Ue) (y:=mm.toNat) .slice3B (show 0<=n2 by omega) (by omega);have e3:=fV (P:=P) (w:=w) (kk:=kk) (y:=n2.toNat) .slice3C (show 0<=n by omega) (by omega);simp[Instr.sliceBounds,hy,LA,h3,e1,e2,e3]
theorem zq(he:ER c h w e a.tmps){t el:TypeId}{x mx:Operand}{lo hi:Option Operand}{i:TypeInfo}(ho:o.op= .slice t x lo hi (some mx))(hhi:hi≠none)(hu:P.underlying t=some (.slice el))(hi':P.info? el=some i)
  (hp:bw P Γ (.slice3 i.size (aC x) (lo.map aC) (hi.map aC) (aC mx)) e h k kp):dM P c h w a o k:=by
 simp only[bw,aE]at hp;have hx:=he.ev x
 have hrun: ∀(ad:Option Addr) (len cap l hh m:Nat),a.eval x= .slice ad len cap->(Instr.sliceBounds true len cap (lo.map a.eval) (hi.map a.eval) (some (a.eval mx))).run P w= .ok (l,hh,m) w->
   (execOp a.eval o).run P w= .ok (.value (.slice (if m=l then ad else ad.map (·.add (l*i.size))) (hh-l) (m-l))) w:=by
  intro ad len cap l hh m hx hr;simp[execOp,ho,hx,Instr.sliceAt,run_underlying hu,Instr.slice,hr,cS hi']
 split at hp
 ·rename_i sz n get h1
  rw[h1]at hx
  replace hp:=ah.1 hp
  obtain⟨hsz,hp⟩:=hp;have hsz:=Nat.eq_of_beq_eq_true hsz;obtain⟨ad,cap,cX,hnc,gS⟩:=hx.me;obtain⟨l,hh,mm,hp,vf⟩:=nJ (P:=P) (w:=w) he n cap hp
  replace hp:=ah.1 hp
  obtain⟨hb,hp⟩:=hp;simp only[Bool.and_eq_true,decide_eq_true_eq]at hb;obtain⟨⟨h0,h1⟩,h2,h3⟩:=hb;refine .of _ _ hp (hrun _ _ _ _ _ _ cX (vf hhi h0 h1 h2 (by omega))) ?_;by_cases hz:hh.toNat-l.toNat=0
  ·rw[hz]
   exact .pure (.nu _ _ _ _)
  ·rcases gS with rfl|⟨b,off,C,ty,fz,rfl,hb,hw,hn,hc,hcell⟩
   ·omega
   ·rw[if_neg (by omega)]
    simp only[Option.map_some,add_eq];refine .pure (.eR sz _ _ b (off+l.toNat*i.size) _ C ty fz hb hw ?_ (by omega) (fun j hj=>hc _ (by omega)) fun j j' v y hj hv hy=>hcell (l.toNat+j) j' v y (by omega) hv ?_)
    ·have e1:(l.toNat+(hh.toNat-l.toNat))*sz<=n*sz:=Nat.mul_le_mul_right _ (by omega)
     rw[Nat.add_mul]at e1;rw[<- hsz];omega
    ·rw[<- hy,<-hsz,Nat.add_mul]
     congr 1
     omega
 ·rename_i ii g sz off len cap hev
  rw[hev]at hx;clear hev
  replace hp:=ah.1 hp
  obtain⟨hsz,hp⟩:=hp;have hsz:=Nat.eq_of_beq_eq_true hsz;obtain⟨hp,sz',elems,sk,bS⟩:=eC hp;obtain⟨gd,ad,cc,cX,hlc,hcap,gS⟩:=hx.gG bS rfl;obtain⟨l,hh,mm,hp,vf⟩:=nJ (P:=P) (w:=w) he len cc hp
  replace hp:=ah.1 hp
  obtain⟨hb,hp⟩:=hp;simp only[Bool.and_eq_true,decide_eq_true_eq]at hb;obtain⟨⟨h0,h1⟩,h2,h3⟩:=hb
  have X4:mm.toNat<=cc:=by
   cases cap with
   |some cp=>have:=hcap cp rfl;dsimp only at h3;omega
   |none=>dsimp only at h3;omega
  refine .of _ _ hp (hrun _ _ _ _ _ _ cX (vf hhi h0 h1 h2 (by omega))) ?_;cases hx with
  |pure hx=>cases hx
  |sl _ _ _ _ _ _ _ _ hi hg _=>
  refine .sl _ _ _ _ _ _ _ ⟨_,_,_,rfl⟩ hi hg fun o' ho' hgo=> ?_
  rw[bS]at ho';cases ho'
  by_cases hz:mm.toNat=l.toNat
  ·rw[if_pos hz]
   exact⟨gd,ad,_,rfl,by omega,fun k hk=>by cases hk;rfl,.inl (by omega),fun h=>by cases h⟩
  ·rw[if_neg hz]
   simp only[Option.map_some];refine⟨gd,_,_,rfl,by omega,fun k hk=>by cases hk;rfl,.inr ?_,fun h=>by cases h⟩;rcases gS with h0|⟨rfl,ty,n,hsh,hle'⟩
   ·omega
   ·refine⟨by rw[add_eq,Nat.add_mul,hsz],ty,n,hsh,?_⟩
    have e1:(off+l.toNat)*sz+(mm.toNat-l.toNat)*sz=(off+mm.toNat)*sz:=by
     rw[<- Nat.add_mul];congr 1
     omega
    have e2:(off+mm.toNat)*sz<=(off+cc)*sz:=Nat.mul_le_mul_right _ (by omega);rw[Nat.add_mul off cc]at e2;omega
 ·rename_i h1
  rw[h1]at hx;obtain⟨l,hh,mm,hp,vf⟩:=nJ (P:=P) (w:=w) he 0 0 hp
  replace hp:=ah.1 hp
  obtain⟨hb,hp⟩:=hp;simp only[Bool.and_eq_true,decide_eq_true_eq]at hb;obtain⟨h0,h1,h2⟩:=hb;subst h0;subst h1;subst h2
  refine .of _ _ hp (hrun _ _ _ _ _ _ hx.b9 (vf hhi (by omega) (by omega) (by omega) (by omega))) ?_;exact .pure .ak
 ·exact hp.elim
theorem zu: ∀ {s:List Nat} {n:Nat},kU s n=s.contains n
 | [],n=>rfl
 |x::r,n=>by
  unfold kU;rw[List.contains_cons,zu];rcases bE x n with⟨h,h'⟩|⟨h,h'⟩
  ·rw[h];subst h';simp
  ·rw[h]
   have:(n==x)=false:=by simpa using fun e=>h' e.symm
   rw[this];rfl
theorem tV: ∀(es:List (SV×SV×Nat)) (s:List Nat),(mS es s).map cY=(es.map cY).filter fun e=> !s.contains e.born
 | [],s=>rfl
 |x::r,s=>by
  unfold mS;rw[zu,List.map_cons,List.filter_cons];show _=if(!s.contains x.2.2)=true then _ else _
  cases s.contains x.2.2
  ·simp[tV r s]
  ·simp[tV r s]
theorem zv{p:SV->SV->Nat->Prop}: ∀ {l:List (SV×SV×Nat)},Lx l p-> ∀x∈l,p x.1 x.2.1 x.2.2
 | [],_,x,h=>by cases h
 |y::r,⟨h1,h2⟩,x,h=>by
  rcases List.mem_cons.1 h with rfl|h
  ·exact h1
  ·exact zv h2 x h
theorem zw: ∀(es:List (SV×SV×Nat)) (s:Nat) {kk v:SV},Dw es s=some (kk,v)-> ∃e,(es.map cY).find? (fun x=>x.born==s)=some e/\e.key=valOf 4 kk/\e.val=valOf 4 v/\ ∃x∈es,x.1=kk/\x.2.1=v
 | [],s,kk,v,h=>by cases h
 |x::r,s,kk,v,h=>by
  unfold Dw at h;rw[List.map_cons,List.find?_cons];show ∃e,(match x.2.2==s with|true=>_|false=>_)=some e/\_;rcases bE x.2.2 s with⟨hb,h'⟩|⟨hb,h'⟩
  ·rw[hb]at h
   cases h
   rw[beq_iff_eq.2 h'];exact⟨_,rfl,rfl,rfl,x,List.mem_cons_self ..,rfl,rfl⟩
  ·rw[hb]at h
   have:(x.2.2==s)=false:=by simpa using h'
   rw[this];obtain⟨e,h1,h2,h3,y,hy,h4⟩:=zw r s h;exact⟨e,h1,h2,h3,y,List.mem_cons_of_mem _ hy,h4⟩
theorem zx: ∀(l:List Nat),l.getLast? =F1 l
 | []=>rfl
 | [x]=>rfl
 |x::y::r=>by
  rw[List.getLast?_cons_cons,zx (y::r)];rfl
theorem E0{es:List (SV×SV×Nat)}{q:Nat->Bool}(h:(es.all fun x=>q x.2.2&&(ec 4 x.1&&ec 4 x.2.1))=true): ∀x∈es,q x.2.2=true/\ec 4 x.1=true/\ec 4 x.2.1=true:=fun x hx=>by
 have:=List.all_eq_true.1 h x hx;simpa only[Bool.and_eq_true]using this
theorem BK(hr:bP c h w)(he:ER c h w e a.tmps){x:Operand}(ho:o.op= .next x false)(hp:bw P Γ (.tF (aC x)) e h k kp):gZ P c h w a o k:=by
 simp only[bw,aE]at hp;have hx:=he.ev x;obtain⟨n,l⟩:=h;split at hp
 ·rename_i j g idx sub n' l' hev hh
  cases hh
  rw[hev]at hx
  replace hp:=ah.1 hp
  obtain⟨LK,hp⟩:=hp;simp only[Bool.and_eq_true]at LK;obtain rfl:=Nat.eq_of_beq_eq_true LK.1;obtain rfl:=Nat.eq_of_beq_eq_true LK.2;simp only[aW]at hp;split at hp
  ·rename_i ob bS
   split at hp
   ·rename_i m since seen stepped
    split at hp
    ·rename_i i g'
     replace hp:=ah.1 hp
     obtain⟨hg',hp⟩:=hp;obtain rfl:=Nat.eq_of_beq_eq_true hg';split at hp
     ·rename_i R3 qp
      split at hp
      ·rename_i es cl
       replace hp:=ah.1 hp
       obtain⟨hall,hp⟩:=hp;simp only[Bool.and_eq_true]at hall;have hsc:=Nat.le_of_ble_eq_true hall.1;have Ui:=E0 (q:=fun n=>Nat.blt n since) hall.2;have cX:=hx.ey (o:= .bU (.cJ i 0) since seen stepped) bS rfl;have cX:a.eval x= .pointer (some ⟨c.β j,0,none⟩):=by simpa[aA.sz]using cX
       cases hr.obj j _ bS with
       |bU _ _ _ _ r hw hm=>
       cases hr.obj i _ qp with
       |map _ _ hw' hs=>
       have IG:=hm.lE (o:= .map es cl) qp rfl;have IG:r=some (c.β i):=by simpa using IG
       subst IG;have hlt:c.β j<w.heap.size:=(hr.obj j _ bS).lt
       have hleft:leftOf (es.map cY).toArray seen.toArray=((mS es seen).map cY).toArray:=by
        unfold leftOf;rw[tV];simp
       rcases run_next_at (P:=P) w o.type (c.β j) (c.β i) since stepped seen.toArray (es.map cY).toArray cl hw hw' (fun y hy=>by
        obtain⟨z,hz,rfl⟩:=List.mem_map.1 (show y∈es.map cY from hy);show z.2.2<since;exact Nat.lt_of_succ_le (by simpa[Nat.blt]using (Ui z hz).1)) hsc with⟨h0,hrun⟩|⟨en,yL,w1,hw1,hrun⟩
       ·rw[hleft]at h0
        have:mS es seen=[]:=by simpa using h0
        rw[this]at hp;exact⟨_,.tuple #[.bool false],_,c,w,hp,.inl (by simp[execOp,ho,cX,hrun]),hr,.refl,DH .bool⟩
       ·rw[hleft]at yL
        obtain⟨z,hz,rfl⟩:=List.mem_map.1 (show en∈(mS es seen).map cY from yL)
        have hp:kS l j (.bU (.cJ i 0) since (seen++[z.2.2]) cl) fun l'=>k (.aN [.bool true,z.1,z.2.1]) ⟨n,l'⟩:=by
         revert hp;cases hL:mS es seen with
         |nil=>rw[hL]at hz;cases hz
         |cons y r=>intro hp;rw[hL]at hz;exact zv hp z hz
        rw[dU]at hp
        have hsub: ∀ {q:SV×SV×Nat},q∈mS es seen->q∈es:=by
         have: ∀(es:List (SV×SV×Nat)),∀q∈mS es seen,q∈es:=fun es=>by
          induction es with
          |nil=>intro q hq;cases hq
          |cons y r ih=>
           intro q hq;unfold mS at hq;cases hb:kU seen y.2.2
           ·rw[hb]at hq
            rcases List.mem_cons.1 hq with rfl|hq
            ·exact List.mem_cons_self ..
            ·exact List.mem_cons_of_mem _ (ih q hq)
           ·rw[hb]at hq;exact List.mem_cons_of_mem _ (ih q hq)
         exact fun{q} hq=>this es q hq
        have qh:bP c ⟨n,l⟩ w1:=by rcases hw1 with rfl|rfl;exact hr;exact lM hr
        have hx1:Ext c ⟨n,l⟩ w c ⟨n,l⟩ w1:=by rcases hw1 with rfl|rfl;exact .refl;exact iJ
        have Pc:w1.heap=w.heap:=by rcases hw1 with rfl|rfl<;>rfl
        obtain⟨iw,hx2⟩:=qn (o1:= .bU (.cJ i 0) since (seen++[z.2.2]) cl) (b1:= .mapIter (some (c.β i)) since (seen.toArray.push z.2.2) cl) qh bS rfl rfl (by rw[Pc];exact hw) rfl rfl
         (fun hx Gg=> .bU _ _ _ _ (some (c.β i)) (by rw[Gg];simp) (hm.mono hr (hx1.trans hr hx)))
        have hzs:=Ui z (hsub hz);refine⟨_,.tuple #[.bool true,valOf 4 z.1,valOf 4 z.2.1],_,c,_,hp,.inl ?_,iw,hx1.trans hr hx2,DI .bool (.pure (lF 4 _ hzs.2.1)) (.pure (lF 4 _ hzs.2.2))⟩;simp[execOp,ho,cX,hrun]
        first|exact⟨⟨rfl,rfl⟩,rfl⟩|exact⟨rfl,rfl,rfl⟩
      ·exact hp.elim
     ·exact hp.elim
    ·exact hp.elim
   ·exact hp.elim
  ·exact hp.elim
 ·exact hp.elim
theorem BL(hr:bP c h w)(he:ER c h w e a.tmps){x:Operand}(ho:o.op= .entry x)(hp:bw P Γ (.entry (aC x)) e h k kp):gZ P c h w a o k:=by
 simp only[bw,aE]at hp;have hx:=he.ev x;obtain⟨n,l⟩:=h;split at hp
 ·rename_i j g idx sub n' l' hev hh
  cases hh
  rw[hev]at hx
  replace hp:=ah.1 hp
  obtain⟨LK,hp⟩:=hp;simp only[Bool.and_eq_true]at LK;obtain rfl:=Nat.eq_of_beq_eq_true LK.1;obtain rfl:=Nat.eq_of_beq_eq_true LK.2;simp only[aW]at hp;split at hp
  ·rename_i ob bS
   split at hp
   ·rename_i m since seen stepped
    split at hp
    ·rename_i i g'
     replace hp:=ah.1 hp
     obtain⟨hg',hp⟩:=hp;obtain rfl:=Nat.eq_of_beq_eq_true hg';split at hp
     ·rename_i R3 qp
      split at hp
      ·rename_i es cl
       replace hp:=ah.1 hp
       obtain⟨hall,hp⟩:=hp;simp only[Bool.and_eq_true]at hall;obtain rfl:=Nat.eq_of_beq_eq_true hall.1;have cX:=hx.ey (o:= .bU (.cJ i 0) since seen cl) bS rfl;have cX:a.eval x= .pointer (some ⟨c.β j,0,none⟩):=by simpa[aA.sz]using cX
       split at hp
       ·rename_i s hs
        split at hp
        ·rename_i kk v hf
         obtain⟨en,h1,h2,h3,z,hz,rfl,rfl⟩:=zw es s hf;have hzs:=List.all_eq_true.1 hall.2 z hz;simp only[Bool.and_eq_true]at hzs;cases hr.obj j _ bS with
         |bU _ _ _ _ r hw hm=>
         cases hr.obj i _ qp with
         |map _ _ hw' hs'=>
         have IG:=hm.lE (o:= .map es cl) qp rfl;have IG:r=some (c.β i):=by simpa using IG
         subst IG;have hb:seen.toArray.back? =some s:=by rw[<- hs,<-zx];simp[Array.back?,List.getLast?_eq_getElem?]
         have hf':(es.map cY).toArray.find? (fun x=>x.born==s)=some en:=by rw[<- Array.find?_toList];exact h1
         refine⟨_,.tuple #[valOf 4 z.1,valOf 4 z.2.1],_,c,w,hp,.inl ?_,hr,.refl,mz (.pure (lF 4 _ hzs.1)) (.pure (lF 4 _ hzs.2))⟩;simp[execOp,ho,cX,Instr.entry,getObj,Sem.run,hw,hw',hb,hf',h2,h3]
        ·exact hp.elim
       ·exact hp.elim
      ·exact hp.elim
     ·exact hp.elim
    ·exact hp.elim
   ·exact hp.elim
  ·exact hp.elim
 ·exact hp.elim
theorem zy(hr:bP c h w)(he:ER c h w e a.tmps){neg:Bool}{t yt el:TypeId}{x y:Operand}(ho:o.op= .binOp (if neg then .neq else .eql) t x y yt)(hu:P.underlying t=some (.slice el))
  (hp:bw P Γ (.J0 neg (aC x) (aC y)) e h k kp):dM P c h w a o k:=by
 simp only[bw,aE]at hp;have hx:=he.ev x;have hy:=he.ev y
 have fin: ∀(b:Bool) (s1 s2:Option Addr) (l1 c1 l2 c2:Nat),a.eval x= .slice s1 l1 c1->a.eval y= .slice s2 l2 c2->(s1=none/\b=s2.isNone\/(∃ q,s1=some q)/\s2=none/\b=false)->
   (execOp a.eval o).run P w= .ok (.value (.bool (if neg then !b else b))) w:=by
  intro b s1 s2 l1 c1 l2 c2 hx hy hh
  have h1:(Op.equal t (.slice s1 l1 c1) (.slice s2 l2 c2)).run P w= .ok b w:=by
   unfold Op.equal;rw[show Op.maxDepth=9999+1 from rfl];unfold Op.equalIn;rcases hh with⟨rfl,rfl⟩|⟨⟨q,rfl⟩,rfl,rfl⟩<;>simp[run_underlying hu]
  have h2:(eqGuard (if neg then .neq else .eql) t x y (a.eval x) (a.eval y)).run P w= .ok () w:=by
   unfold eqGuard;rw[hx,hy];cases neg<;>rfl
  have hb:(binOp (if neg then .neq else .eql) t (a.eval x) (a.eval y)).run P w= .ok (.bool (if neg then !b else b)) w:=by
   rw[hx,hy];cases neg<;>simp[binOp,h1]
  simp only[execOp,ho,Sem.run_bind,h2,Result.andThen_ok,hb];rfl
 have DK: ∀ {sz n:Nat} {get:Nat->SV} {v:Value},Nat.blt 0 n=true->VR c h w (.eR sz n get) v-> ∃q cc,v= .slice (some q) n cc:=fun{sz n get v} hn hv=>by
  cases hv with
  |pure hp=>
   cases hp with
   |nu=>cases hn
   |eR _ _ _ b off cap C ty fz hb hw hn hcap hc h=>exact⟨_,_,rfl⟩
 have live: ∀ {i g:Nat} {p:Prop},fJ h i g p->p/\ ∃o,h.obj i=some o/\o.gen=g:=fun{i g p} hl=>by
  obtain⟨n,l⟩:=h;unfold fJ at hl;simp only[aW]at hl;split at hl
  ·rename_i ob bS
   split at hl
   ·replace hl:=ah.1 hl
    exact⟨hl.2,_,bS,Nat.eq_of_beq_eq_true hl.1⟩
   ·exact hl.elim
  ·exact hl.elim
 split at hp
 ·rename_i h1 h2
  rw[h1]at hx;rw[h2]at hy
  have:=fin true _ _ _ _ _ _ hx.b9 hy.b9 (.inl ⟨rfl,rfl⟩);cases neg<;>exact .of _ _ hp this .bool
 ·rename_i i g sz off len cap h1 h2
  rw[h1]at hx;rw[h2]at hy
  obtain⟨hp,ob,bS,hg⟩:=live hp;obtain⟨_,q,cc,EL,_⟩:=hy.gG bS hg;have:=fin false _ _ _ _ _ _ hx.b9 EL (.inl ⟨rfl,rfl⟩);cases neg<;>exact .of _ _ hp this .bool
 ·rename_i i g sz off len cap h1 h2
  rw[h1]at hx;rw[h2]at hy
  obtain⟨hp,ob,bS,hg⟩:=live hp;obtain⟨_,q,cc,cX,_⟩:=hx.gG bS hg;have:=fin false _ _ _ _ _ _ cX hy.b9 (.inr ⟨⟨q,rfl⟩,rfl,rfl⟩);cases neg<;>exact .of _ _ hp this .bool
 ·rename_i sz n get h1 h2
  rw[h1]at hx;rw[h2]at hy
  replace hp:=ah.1 hp
  obtain⟨q,cc,EL⟩:=DK hp.1 hy;have:=fin false _ _ _ _ _ _ hx.b9 EL (.inl ⟨rfl,rfl⟩);cases neg<;>exact .of _ _ hp.2 this .bool
 ·rename_i sz n get h1 h2
  rw[h1]at hx;rw[h2]at hy
  replace hp:=ah.1 hp
  obtain⟨q,cc,cX⟩:=DK hp.1 hx;have:=fin false _ _ _ _ _ _ cX hy.b9 (.inr ⟨⟨q,rfl⟩,rfl,rfl⟩);cases neg<;>exact .of _ _ hp.2 this .bool
 ·exact hp.elim
theorem vY: ∀ {l:List (Nat×aA)} {i:Nat} {o:aA},aG l i=some o->bC l i o=l
 | [],_,_,h=>by cases h
 |(s,p)::r,i,o,h=>by
  unfold aG at h;unfold bC;by_cases e:s=i
  ·rw[if_pos e]at h ⊢
   cases h;rfl
  ·rw[if_neg e]at h ⊢
   rw[vY h]
theorem qq{n:Nat}{l:List (Nat×aA)}(hr:bP c ⟨n,l⟩ w){ii g gy:Nat}{elems xs:List SV}{sk:Sk}{news:List Value}(bS:aG l ii=some (.vec g gy elems sk)){p0:Nat}(hL:LW c ⟨n,l⟩ w gy xs news)(h1: ∀u∈news,u.oneCell'=true)(hle:p0+xs.length<=elems.length):
  ∃w',(storeCells ⟨c.β ii,p0*gy,none⟩ news).run P w= .ok () w'/\bP c ⟨n,bC l ii (.vec g gy (gf elems p0 xs) sk)⟩ w'/\Ext c ⟨n,l⟩ w c ⟨n,bC l ii (.vec g gy (gf elems p0 xs) sk)⟩ w':=by
 cases hr.obj ii _ bS with
 |vec _ _ _ _ C ty fz hw vn heq hty hc hf hcell=>
  have hel: ∀p,(gf elems p0 xs)[p]? =if p0<=p/\p<p0+xs.length then xs[p-p0]? else elems[p]? :=fun p=>hG _ _ _ _ hle
  have hlen:=fB elems p0 xs;have e0:(p0+xs.length)*gy<=elems.length*gy:=Nat.mul_le_mul_right _ hle;rw[Nat.add_mul]at e0;obtain⟨w',C',hst,e1,e2,e3,e4,e5,e6,e7,e8⟩:=gL P (c.β ii) (p0*gy) ty fz news 0 C w hw hf (by right;rw[hL.1];omega) h1;have pq:w'.shape? (c.β ii)=w.shape? (c.β ii):=by simp only[World.shape?,e6,hw,e7]
  have Ig:=y7 (n:=n) (elems':=gf elems p0 xs) (vo:=sk) bS (Nat.le_refl _) e1 e2 e3 e4 e5 pq
  have zb: ∀v∈gf elems p0 xs,v.cells.length=gy:=by
   intro v hv;obtain⟨p,hp⟩:=List.mem_iff_getElem?.1 hv;rw[hel]at hp;split at hp
   ·exact hL.2.1 v (List.mem_of_getElem? hp)
   ·exact hc v (List.mem_of_getElem? hp)
  refine⟨w',hst,y8 hr bS Ig e4 e5 e6 (by rw[hlen,e7];exact vn) (fun hs=>by rw[hlen,e7];exact heq hs) hty zb (by rw[e7];exact hf) (fun p j ee v z' so hv ET=> ?_),Ig⟩;have hj:j<gy:=by rw[<- zb ee (List.mem_of_getElem? so)];exact eE hv
  rw[e8]at ET;simp only[Nat.add_zero]at ET;rw[hel]at so;by_cases hin:p0<=p/\p<p0+xs.length
  ·rw[if_pos hin]at so
   have e9:p*gy=p0*gy+(p-p0)*gy:=by rw[<- Nat.add_mul];congr 1;omega
   have hlt2:=pz (sz:=gy) (eE so) hj;rw[if_pos (by rw[hL.1];omega)]at ET;refine hL.2.2 _ j ee v z' so hv ?_;rw[<- ET];congr 1
   omega
  ·rw[if_neg hin]at so
   have hout: ¬(p0*gy<=p*gy+j/\p*gy+j<p0*gy+news.length):=by
    intro⟨q1,q2⟩;rw[hL.1,<-Nat.add_mul]at q2;rcases Nat.lt_or_ge p p0 with hlt|hge
    ·have:=pz (sz:=gy) hlt hj
     omega
    ·have:p0+xs.length<=p:=by omega
     have:=Nat.mul_le_mul_right gy this;omega
   rw[if_neg hout]at ET;exact hcell p j ee v z' so hv ET
theorem Gh(hr:bP c h w)(he:ER c h w e a.tmps){cl:Call}{x:Operand}{t el:TypeId}{i:TypeInfo}{z:Value}(ho:o.op= .call cl)(eI:cl.callee= .builtin .clear)(hargs:cl.args.toList=[x])(gY:cl.argTypes.toList=[t])
  (hu:P.underlying t=some (.slice el))(hi:P.info? el=some i)(hz:i.zero=some z)(hs:(bf 4 z).cells.length=i.size)(hk:(bf 4 z).known=true)
  (hp:bw P Γ (.OV i.size (bf 4 z) (aC x)) e h k kp):gZ P c h w a o k:=by
 simp only[bw,aE]at hp;have hx:=he.ev x;have cM:cl.args= #[x]:=by simpa using congrArg List.toArray hargs
 have jd:cl.argTypes= #[t]:=by simpa using congrArg List.toArray gY
 have hrun: ∀w',(Builtin.clear_ #[t] o.type #[a.eval x]).run P w= .ok (.tuple #[]) w'->(execOp a.eval o).run P w= .ok (.value (.tuple #[])) w':=by
  intro w' hrun;simp[execOp,ho,resolve,eI,cM,jd,invoke,builtin,hrun]
 split at hp
 ·rename_i h1
  rw[h1]at hx;refine(dM.of _ (.tuple #[]) hp (hrun _ ?_) (.pure (.aN [] #[] rfl fun i v x hv=>by simp at hv))).does hr;rw[hx.b9];simp[Builtin.clear_,run_underlying hu]
 ·rename_i ii g sz' off len cap h1
  rw[h1]at hx
  replace hp:=ah.1 hp
  obtain⟨hsz,hp⟩:=hp;have hsz:=Nat.eq_of_beq_eq_true hsz;subst hsz;obtain⟨n,l⟩:=h;simp only[aW]at hp;split at hp
  ·rename_i ob bS
   split at hp
   ·rename_i g' gy elems sk
    replace hp:=ah.1 hp
    obtain⟨hg,hp⟩:=hp;have hg:=Nat.eq_of_beq_eq_true hg;subst hg;rw[iI]at hp
    replace hp:=ah.1 hp
    obtain⟨hone,hp⟩:=hp;obtain⟨LH,hp⟩:=fL.1 hp;rw[dU]at hp;obtain⟨gd,ad,cc,cX,hlc,hcap,gS⟩:=hx.gG (o:= .vec g' gy elems sk) bS rfl;simp only[aA.sz]at gd;subst gd;by_cases hl0:len=0
    ·subst hl0
     refine(dM.of _ (.tuple #[]) ?_ (hrun _ ?_) (.pure (.aN [] #[] rfl fun i v x hv=>by simp at hv))).does hr
     ·have hsame:bC l ii (.vec g' i.size (gf elems off (List.replicate 0 (bf 4 z))) sk)=l:=vY bS
      rw[hsame]at hp;exact hp
     ·rw[cX]
      simp[Builtin.clear_,run_underlying hu]
    ·have LH:off+len<=elems.length:=by
      rcases LH with h|h
      ·exact absurd (by simpa using h) hl0
      ·simpa using h
     have Bt:VR c ⟨n,l⟩ w (bf 4 z) z:= .pure (dR 4 z);have hlr:=qm Bt hk hs len
     have hL:LW c ⟨n,l⟩ w i.size (List.replicate len (bf 4 z)) ((Array.range (len*i.size)).map (z.cells[· %z.cells.size]!)).toList:=
      ⟨by rw[Array.length_toList];exact hlr.1,hlr.2.1,fun i j e v x h1 h2 h3=>hlr.2.2 i j e v x h1 h2 (by rw[<- Array.getElem?_toList];exact h3)⟩
     obtain⟨w',hst,hr',hx'⟩:=qq (P:=P) hr bS (p0:=off) hL (hL.one hone) (by simpa using LH);rcases gS with h0|⟨rfl,ty,m,hsh,hle'⟩
     ·omega
     refine⟨_,.tuple #[],_,c,w',hp,.inl (hrun _ ?_),hr',hx',.pure (.aN [] #[] rfl fun i v x hv=>by simp at hv)⟩;rw[cX];have hzs:z.cells.size=i.size:=tT hk hs
     have Vs:Builtin.zeroCells z.cells len=(Array.range (len*i.size)).map (z.cells[· %z.cells.size]!):=by
      unfold Builtin.zeroCells;rw[hzs]
     cases len with
     |zero=>exact absurd rfl hl0
     |succ len=>
      have R4:(storeCells ⟨c.β ii,off*i.size,none⟩ (List.map (fun x=>z.cells[x%z.cells.size]!) (List.range ((len+1)*i.size)))).run P w= .ok () w':=by
       rw[<- hst];simp
      simp[Builtin.clear_,run_underlying hu,gK hi hz,Vs,R4,Result.andThen_ok]
   ·exact hp.elim
  ·exact hp.elim
 ·exact hp.elim
end
end
end Ab
