/- Parts of the proof of PCatalogBack, one behind the other, with short names. -/
import Derived.Test.YtegmnocpkgpgeaaGreatDoorZ10
import Derived.Maps.RangeRun
import Derived.MapKept
set_option linter.unusedVariables false
set_option linter.unusedSimpArgs false
namespace Ab
open Go
section
section
variable {P:Program} {Γ:bR} {c:Cx} {h:Heap} {w:World} {e:Env} {a:Act} {o:Oper} {k kp:SV->Heap->Prop}
def blk(w:World)(b:Nat)(ob:Obj):World:={w with heap:=w.heap.setIfInBounds b ob}
theorem Cb{b:Nat}{ob:Obj}(hb:b<w.heap.size):(blk w b ob).heap[b]? =some ob:=by simp[blk,hb]
theorem J1{b b':Nat}{ob:Obj}(hb:b'≠b):(blk w b ob).heap[b']? =w.heap[b']? :=by
 simp only[blk,Array.getElem?_setIfInBounds];rw[if_neg (fun e=>hb e.symm)]
theorem Cc{b:Nat}{ob:Obj}:(blk w b ob).heap.size=w.heap.size:=by simp[blk]
def AA:Obj->Bool
 | .cells .. =>false
 |_=>true
theorem Cd{b:Nat}{ob:Obj}(h:w.heap[b]? =some ob)(hn:AA ob=true):w.shape? b=none:=by
 unfold World.shape?;rw[h];cases ob<;>first|rfl|cases hn
theorem so{n:Nat}{l:List (Nat×ai)}(hr:bT c ⟨n,l⟩ w){i:Nat}{o0 o1:ai}{b0 b1:Obj}(ho:ak l i=some o0)(hg:o0.gen=o1.gen)(hs:o0.sz=o1.sz)(h0:w.heap[c.β i]? =some b0)(n0:AA b0=true)(n1:AA b1=true)
  (jn:Ext c ⟨n,l⟩ w c ⟨n,bt l i o1⟩ (blk w (c.β i) b1)->(blk w (c.β i) b1).heap[c.β i]? =some b1->OR c ⟨n,bt l i o1⟩ (blk w (c.β i) b1) (c.β i) o1):
  bT c ⟨n,bt l i o1⟩ (blk w (c.β i) b1)/\Ext c ⟨n,l⟩ w c ⟨n,bt l i o1⟩ (blk w (c.β i) b1):=by
 have hlt:c.β i<w.heap.size:=(hr.obj i o0 ho).lt;have hx:Ext c ⟨n,l⟩ w c ⟨n,bt l i o1⟩ (blk w (c.β i) b1):=F9 hr ho hg hs rfl rfl rfl Cc (fun b' hb=>J1 hb) (by rw[Cd (Cb hlt) n1,Cd h0 n0]);exact⟨Ga hr ho hx Cc (fun b' hb=>J1 hb) (jn hx (Cb hlt)),hx⟩
theorem Gc{u:SV}{x:Value}(hu:VR c h w u x):VR c h w (.bn [u]) (.tuple #[x]):= .bn _ _ rfl fun i v y hv hy=>by
 cases i with
 |zero=>simp at hv hy;subst hv;subst hy;exact hu
 |succ i=>simp at hv
theorem oA{u v:SV}{x y:Value}(hu:VR c h w u x)(hv:VR c h w v y):VR c h w (.bn [u,v]) (.tuple #[x,y]):= .bn _ _ rfl fun i a b ha hb=>by
 rcases i with _|_|i
 ·simp at ha hb;subst ha;subst hb;exact hu
 ·simp at ha hb;subst ha;subst hb;exact hv
 ·simp at ha
theorem Gd{u v t:SV}{x y z:Value}(hu:VR c h w u x)(hv:VR c h w v y)(ht:VR c h w t z):VR c h w (.bn [u,v,t]) (.tuple #[x,y,z]):= .bn _ _ rfl fun i a b ha hb=>by
 rcases i with _|_|_|i
 ·simp at ha hb;subst ha;subst hb;exact hu
 ·simp at ha hb;subst ha;subst hb;exact hv
 ·simp at ha hb;subst ha;subst hb;exact ht
 ·simp at ha
theorem Ge:VR c h w (.bn []) (.tuple #[]):= .pure (.bn _ _ rfl fun i v x hv=>by simp at hv)
theorem Ce(hr:bT c h w)(he:ER c h w e a.tmps){t:TypeId}{x:Operand}(ho:o.op= .range t x)(hu:P.underlying t=some .string)(hp:bF P Γ (.rC (aD x)) e h k kp):jt P c h w a o k:=by
 simp only[bF,aE]at hp;have hx:=he.ev x;obtain⟨n,l⟩:=h;split at hp
 ·rename_i s n' l' hev hh
  cases hh
  rw[hev]at hx;have dA:=hx.eJ;refine⟨_,.pointer (some ⟨w.heap.size,0,none⟩),_,c.push n w.heap.size,w.alloc (.stringIter ⟨s.toArray⟩ 0),hp,.inl ?_,kj hr _ _ (.iter s 0 (dM _ _)),eE hr _ _,?_⟩
  ·simp[execOp,ho,dA,Instr.range,run_underlying hu,run_newObj_alloc]
  ·exact .ref _ _ _ _ _ ⟨_,rfl⟩ (Nat.lt_succ_self _) (fun _ _=>Nat.zero_le _) fun o' ho' _=>by simp[Cx.push]
 ·exact hp.elim
theorem EB(hr:bT c h w)(he:ER c h w e a.tmps){x:Operand}(ho:o.op= .next x true)(hp:bF P Γ (.vU (aD x)) e h k kp):jt P c h w a o k:=by
 simp only[bF,aE]at hp;have hx:=he.ev x;obtain⟨n,l⟩:=h;split at hp
 ·rename_i i g idx sub m hl hev hh
  cases hh
  rw[hev]at hx
  replace hp:=ah.1 hp
  obtain⟨hc,hp⟩:=hp;simp only[Bool.and_eq_true]at hc;obtain rfl:=Nat.eq_of_beq_eq_true hc.1;obtain rfl:=Nat.eq_of_beq_eq_true hc.2.1;obtain rfl:=Nat.eq_of_beq_eq_true hc.2.2;simp only[bg]at hp;split at hp
  ·rename_i ob bZ
   split at hp
   ·rename_i s pos
    have dA:=hx.eK (o:= .iter s pos) bZ rfl;simp only[ai.sz,Nat.mul_zero,Nat.zero_add]at dA;cases hr.obj i _ bZ with
    |iter _ _ hw=>
     have hsz:(⟨s.toArray⟩:ByteArray).size=s.length:=by simp[ByteArray.size]
     rcases Bw hp with⟨hb,hp⟩|⟨hb,hp⟩
     ·have hlt:pos<s.length:=Nat.le_of_ble_eq_true hb
      obtain⟨cc,wd,TJ⟩: ∃cc wd,Utf8.decode ⟨s.toArray⟩ pos=(cc,wd):=⟨_,_,rfl⟩;rw[TJ]at hp;dsimp only at hp;rw[cL]at hp;have hd:=so (o1:= .iter s (pos+wd)) (b1:= .stringIter ⟨s.toArray⟩ (pos+wd)) hr bZ rfl rfl hw rfl rfl (fun _ h=> .iter _ _ h);refine⟨_,.tuple #[.bool true,goInt pos,.int .i32 cc],_,c,blk w (c.β i) (.stringIter ⟨s.toArray⟩ (pos+wd)),hp,.inl ?_,hd.1,hd.2,Gd .bool .int .int⟩;simp only[execOp,ho,dA,Instr.next,getObj,Sem.run_bind,Sem.run,hw,Result.andThen_ok,Result.andThen,hsz,hlt,if_true,TJ,setObj,blk];rfl
     ·have hge: ¬pos<s.length:=fun hlt=>by
       have:Nat.blt pos s.length=true:=by show Nat.ble (pos+1) s.length=true;rw[Nat.ble_eq];exact hlt
       rw[this]at hb;cases hb
      refine⟨_,.tuple #[.bool false],_,c,w,hp,.inl ?_,hr,.refl,Gc .bool⟩;simp only[execOp,ho,dA,Instr.next,getObj,Sem.run_bind,Sem.run,hw,Result.andThen_ok,Result.andThen,hsz,hge,if_false];rfl
   ·exact hp.elim
  ·exact hp.elim
 ·exact hp.elim
theorem ED(hr:bT c h w){t:TypeId}(ho:o.op= .makeMap t none)(hp:bF P Γ .mkMap e h k kp):jt P c h w a o k:=by
 simp only[bF]at hp;obtain⟨n,l⟩:=h;refine⟨_,.map (some w.heap.size),_,c.push n w.heap.size,w.alloc (.map #[] 0),hp,.inl ?_,kj hr _ _ (.map [] 0 (dM _ _) (by simp)),eE hr _ _,?_⟩
 ·simp[execOp,ho,Instr.makeMap,run_newObj_alloc]
 ·exact .cW _ _ _ ⟨_,rfl⟩ (Nat.lt_succ_self _) (fun _ _=>Nat.zero_le _) fun o' ho' _=>by simp[Cx.push]
theorem Cf(hr:bT c h w)(he:ER c h w e a.tmps){t kt et:TypeId}{x:Operand}(ho:o.op= .range t x)(hu:P.underlying t=some (.map kt et))(hp:bF P Γ (.tD (aD x)) e h k kp):jt P c h w a o k:=by
 simp only[bF,aE]at hp;have hx:=he.ev x;obtain⟨n,l⟩:=h;split at hp
 ·rename_i n' l' hev hh
  cases hh
  rw[hev]at hx;have dA:=hx.nq;refine⟨_,.pointer (some ⟨w.heap.size,0,none⟩),_,c.push n w.heap.size,w.alloc (.mapIter none 0 #[] 0),hp,.inl ?_,kj hr _ _ (.cy .gb 0 [] 0 none (dM _ _) (.pure .gb)),eE hr _ _,?_⟩
  ·simp[execOp,ho,dA,Instr.range,run_underlying hu,run_newObj_alloc]
  ·exact .ref _ _ _ _ _ ⟨_,rfl⟩ (Nat.lt_succ_self _) (fun _ _=>Nat.zero_le _) fun o' ho' _=>by simp[Cx.push]
 ·rename_i i g n' l' hev hh
  cases hh
  rw[hev]at hx;simp only[bg]at hp;split at hp
  ·rename_i ob bZ
   split at hp
   ·rename_i es cl
    replace hp:=ah.1 hp
    obtain⟨hg,hp⟩:=hp;obtain rfl:=Nat.eq_of_beq_eq_true hg;have dA:=hx.nu (o:= .map es cl) bZ rfl;cases hr.obj i _ bZ with
    |map _ _ hw hs=>
     refine⟨_,.pointer (some ⟨w.heap.size,0,none⟩),_,c.push n w.heap.size,w.alloc (.mapIter (some (c.β i)) cl #[] cl),hp,.inl ?_,kj hr _ _ (.cy _ cl [] cl _ (dM _ _) ?_),eE hr _ _,?_⟩
     ·simp[execOp,ho,dA,Instr.range,run_underlying hu,getObj,Sem.run,hw,run_newObj_alloc]
     ·rw[<- dA];exact hx.mono hr (eE hr _ _)
     ·exact .ref _ _ _ _ _ ⟨_,rfl⟩ (Nat.lt_succ_self _) (fun _ _=>Nat.zero_le _) fun o' ho' _=>by simp[Cx.push]
   ·exact hp.elim
  ·exact hp.elim
 ·exact hp.elim
def kindOk(b:Bool)(kd:TypeDesc):Prop:=match b with|true=>kd= .string|false=> ∃q,kd= .int q
theorem HW{isStr:Bool}{kd:TypeDesc}(D8:kindOk isStr kd){kk x:SV}(hk:qI isStr kk=true){b:Bool}(he:yY kk x=some b):Instr.sameNow kd (valOf 4 kk) (valOf 4 x)=some b:=by
 unfold yY at he;split at he
 ·rename_i s t
  cases he
  cases isStr with
  |true=>
   subst D8;show some (_==_)=_;congr 1
   rw[Bool.eq_iff_iff,Go.MapKept.bytes_beq,beq_iff_eq];exact⟨fun h=>by have:=congrArg (fun b:ByteArray=>b.data.toList) h;simpa using this,fun h=>by rw[h]⟩
  |false=>cases hk
 ·rename_i q m q' m'
  split at he
  ·rename_i hq
   cases he
   cases isStr with
   |true=>cases hk
   |false=>
    obtain⟨q2,rfl⟩:=D8;show(if q=q' then some (m==m')else none)=_;rw[if_pos (ou.1 hq)]
  ·cases he
 ·cases he
theorem tH{isStr:Bool}{kd:TypeDesc}(D8:kindOk isStr kd){kk:SV}(hk:qI isStr kk=true): ∀ {es:List (SV×SV×Nat)} {i:Nat} {K:Option (Nat×SV)->Prop},nD kk es i K->
  ∃r,K r/\Instr.findNow kd (valOf 4 kk) (es.map dB) i=some (r.map fun p=>(p.1,valOf 4 p.2))/\ ∀j v,r=some (j,v)->i<=j/\ ∃x s,es[j-i]? =some (x,v,s)/\yY kk x=some true
 | [],i,K,hp=>⟨none,hp,rfl,fun j v h=>by cases h⟩
 |(x,v,s)::r,i,K,hp=>by
  unfold nD at hp;split at hp
  ·rename_i b hb
   have hn:=HW D8 hk hb;rcases Bw hp with⟨rfl,hp⟩|⟨rfl,hp⟩
   ·refine⟨_,hp,?_,fun j v' h=> ?_⟩
    ·simp only[List.map_cons,dB,Instr.findNow,hn]
     rfl
    ·cases h
     exact⟨Nat.le_refl _,x,s,by simp,hb⟩
   ·obtain⟨r',h1,h2,h3⟩:=tH D8 hk hp
    refine⟨r',h1,?_,fun j v' h=> ?_⟩
    ·simp only[List.map_cons,dB,Instr.findNow,hn]
     exact h2
    ·obtain⟨h4,x',s',h5,h6⟩:=h3 j v' h
     refine⟨by omega,x',s',?_,h6⟩;rw[show j-i=(j-(i+1))+1 by omega,List.getElem?_cons_succ];exact h5
  ·exact hp.elim
theorem y9{t:TypeId}{b:Bool}(h:HG P t=some b): ∃kd,P.underlying t=some kd/\kindOk b kd:=by
 unfold HG at h;split at h
 ·rename_i hu;cases h;exact⟨_,hu,rfl⟩
 ·rename_i q hu;cases h;exact⟨_,hu,q,rfl⟩
 ·cases h
theorem Cg{isStr:Bool}{kk:SV}(hk:qI isStr kk=true){x:Value}(hx:VR c h w kk x):x=valOf 4 kk:=by
 unfold qI at hk;split at hk
 ·exact hx.eJ
 ·exact hx.bQ
 ·cases hk
theorem qp{b empty:Bool}{kt:TypeId}{kd:TypeDesc}(hu:P.underlying kt=some kd)(D8:kindOk b kd)(x:Value):(Instr.checkKey empty 10000 kt x).run P w= .ok () w:=by
 have:(10000:Nat)=9999+1:=rfl;rw[this];unfold Instr.checkKey;cases b with
 |true=>subst D8;simp[run_underlying hu]
 |false=>obtain⟨q,rfl⟩:=D8;simp[run_underlying hu]
theorem sq{kt:TypeId}{kd:TypeDesc}(hu:P.underlying kt=some kd){kx:Value}{es:List MapEntry}{r:Option (Nat×Value)}(h:Instr.findNow kd kx es 0=some r):(Instr.findKey kt kx es).run P w= .ok r w:=by
 unfold Instr.findKey;simp[run_underlying hu,h]
theorem Ch(hr:bT c h w)(he:ER c h w e a.tmps){isStr ok:Bool}{t kt et:TypeId}{m x:Operand}{i:TypeInfo}{z:Value}(ho:o.op= .lookup t m x ok)(hu:P.underlying t=some (.map kt et))(Nf:HG P kt=some isStr)(hi:P.info? et=some i)(hz:i.zero=some z)(Ng:eB 4 (bw 4 z)=true)
  (hp:bF P Γ (.kM isStr (bw 4 z) ok (aD m) (aD x)) e h k kp):dW P c h w a o k:=by
 simp only[bF,aE]at hp;have hm:=he.ev m;have hx:=he.ev x;obtain⟨kd,J2,D8⟩:=y9 Nf;have Eo:VR c h w (bw 4 z) z:= .pure (ei 4 z);obtain⟨n,l⟩:=h;have TK:(zeroValue et).run P w= .ok z w:=iU hi hz;split at hp
 ·rename_i hev
  rw[hev]at hm
  replace hp:=ah.1 hp
  obtain⟨Pg,hp⟩:=hp;have hme:=hm.nq
  have hrun:(Instr.lookup t (a.eval m) (a.eval x) ok).run P w= .ok (if ok then .tuple #[z,.bool false]else z) w:=by
   have h0:=sq (P:=P) (w:=w) (es:=[]) J2 (kx:=a.eval x) (r:=none) rfl;unfold Instr.lookup;simp only[Sem.run_bind,run_underlying hu,Result.andThen_ok,hme,Sem.run_pure,qp J2 D8,Array.toList_empty,h0];cases ok<;>simp[TK]
  cases ok
  ·exact .of _ _ hp (by simp only[execOp,ho,Sem.run_bind,hrun];rfl) Eo
  ·exact .of _ _ hp (by simp only[execOp,ho,Sem.run_bind,hrun];rfl) (oA Eo .bool)
 ·rename_i ii g n' l' hev hh
  cases hh
  rw[hev]at hm;simp only[bg]at hp;split at hp
  ·rename_i ob bZ
   split at hp
   ·rename_i es cl
    replace hp:=ah.1 hp
    obtain⟨hc,hp⟩:=hp;simp only[Bool.and_eq_true]at hc;obtain⟨hg,Pg⟩:=hc;obtain rfl:=Nat.eq_of_beq_eq_true hg;have hme:=hm.nu (o:= .map es cl) bZ rfl;cases hr.obj ii _ bZ with
    |map _ _ hw hs=>
     obtain⟨r,hp,hfind,pq⟩:=tH D8 Pg hp;rw[<- Cg Pg hx]at hfind
     have hrun:(Instr.lookup t (a.eval m) (a.eval x) ok).run P w= .ok (match r with|some p=>if ok then .tuple #[valOf 4 p.2,.bool true]else valOf 4 p.2|none=>if ok then .tuple #[z,.bool false]else z) w:=by
      unfold Instr.lookup;simp only[Sem.run_bind,run_underlying hu,Result.andThen_ok,hme,getObj,Sem.run,hw,Result.andThen,Sem.run_pure,qp J2 D8];rw[sq J2 (r:=r.map fun p=>(p.1,valOf 4 p.2)) (by simpa using hfind)];cases r with
      |none=>cases ok<;>simp[TK]
      |some p=>cases ok<;>simp
     cases r with
     |none=>
      cases ok
      ·exact .of _ _ hp (by simp only[execOp,ho,Sem.run_bind,hrun];rfl) Eo
      ·exact .of _ _ hp (by simp only[execOp,ho,Sem.run_bind,hrun];rfl) (oA Eo .bool)
     |some p=>
      obtain⟨j,v⟩:=p;obtain⟨_,xk,s,WD,_⟩:=pq j v rfl;have hv:VR c ⟨n,l⟩ w v (valOf 4 v):= .pure (ny 4 v (hs _ (List.mem_of_getElem? WD)));cases ok
      ·exact .of _ _ hp (by simp only[execOp,ho,Sem.run_bind,hrun];rfl) hv
      ·exact .of _ _ hp (by simp only[execOp,ho,Sem.run_bind,hrun];rfl) (oA hv .bool)
   ·exact hp.elim
  ·exact hp.elim
 ·exact hp.elim
theorem J3{es:List (SV×SV×Nat)}{k v:SV}: ∀ {j:Nat},(HD es j k v).map dB=(es.map dB).modify j (fun e=>{e with key:=valOf 4 k,val:=valOf 4 v}):=by
 induction es with
 |nil=>intro j;cases j<;>rfl
 |cons p r ih=>
  intro j;obtain⟨a,u,s⟩:=p;cases j with
  |zero=>rfl
  |succ j=>
   show dB (a,u,s)::(HD r j k v).map dB=_;rw[ih];rfl
theorem EE{es:List (SV×SV×Nat)}{k v:SV}(hv:eB 4 v=true): ∀ {j:Nat},(∀ p∈es,eB 4 p.2.1=true)-> ∀p∈HD es j k v,eB 4 p.2.1=true:=by
 induction es with
 |nil=>intro j _ p hp;cases j<;>cases hp
 |cons q r ih=>
  intro j hs p hp;obtain⟨a,u,s⟩:=q;cases j with
  |zero=>
   rcases List.mem_cons.1 hp with rfl|hp
   ·exact hv
   ·exact hs p (by simp[hp])
  |succ j=>
   rcases List.mem_cons.1 hp with rfl|hp
   ·exact hs _ (by simp)
   ·exact ih (fun p hp=>hs p (by simp[hp])) p hp
theorem EF{isStr:Bool}{kk x:SV}(hk:qI isStr kk=true)(he:yY kk x=some true):valOf 4 x=valOf 4 kk:=by
 unfold yY at he;split at he
 ·rename_i s t
  have:s=t:=by simpa using he
  subst this;rfl
 ·rename_i q m q' m'
  split at he
  ·rename_i hq
   have h1:=ou.1 hq;have:m=m':=by simpa using he
   subst h1;subst this;rfl
  ·cases he
 ·cases he
theorem J4{isStr:Bool}{kk:SV}(hk:qI isStr kk=true):Instr.sameBits 10000 (valOf 4 kk) (valOf 4 kk)=true:=by
 unfold qI at hk;split at hk
 ·exact(Go.MapKept.bytes_beq _ _).2 rfl
 ·show((_:IntKind)==_&&(_:Int)==_)=true;simp
 ·cases hk
theorem uJ(hr:bT c h w)(he:ER c h w e a.tmps){isStr:Bool}{t kt et:TypeId}{m x y:Operand}(ho:o.op= .mapUpdate t m x y\/o.op= .insert t m x y)(hu:P.underlying t=some (.map kt et))(Nf:HG P kt=some isStr)
  (hp:bF P Γ (.dw isStr (aD m) (aD x) (aD y)) e h k kp):jt P c h w a o k:=by
 simp only[bF,aE]at hp;have hm:=he.ev m;have hx:=he.ev x;have hy:=he.ev y;obtain⟨kd,J2,D8⟩:=y9 Nf;obtain⟨n,l⟩:=h;split at hp
 ·rename_i ii g n' l' hev hh
  cases hh
  rw[hev]at hm;simp only[bg]at hp;split at hp
  ·rename_i ob bZ
   split at hp
   ·rename_i es cl
    replace hp:=ah.1 hp
    obtain⟨hc,hp⟩:=hp;simp only[Bool.and_eq_true]at hc;obtain⟨hg,Pg,Ng⟩:=hc;obtain rfl:=Nat.eq_of_beq_eq_true hg;have hme:=hm.nu (o:= .map es cl) bZ rfl;have HO:=BE 4 _ _ Ng hy;have dA:=Cg Pg hx;cases hr.obj ii _ bZ with
    |map _ _ hw hs=>
     obtain⟨r,hp,hfind,pq⟩:=tH D8 Pg hp
     have hex:(execOp a.eval o).run P w=((Instr.mapUpdate t (a.eval m) (a.eval x) (a.eval y)).run P w).andThen fun _ w=> .ok .skip w:=by
      rcases ho with ho|ho<;>(simp only[execOp,ho,Sem.run_bind];rfl)
     cases r with
     |none=>
      dsimp only at hp;rw[cL]at hp
      have hd:=so (o1:= .map (es++[((aD x).ev e,(aD y).ev e,cl)]) (cl+1)) (b1:= .map ((es.map dB).toArray.push ⟨a.eval x,a.eval y,cl⟩) (cl+1)) hr bZ rfl rfl hw rfl rfl (fun _ h=> .map _ _ (by
       rw[h,dA,HO]
       simp[dB]) (fun p hp=>by
        rcases List.mem_append.1 hp with hp|hp
        ·exact hs p hp
        ·simp only[List.mem_singleton]at hp;subst hp;exact Ng))
      refine⟨_,undef,_,c,_,hp,.inr ⟨?_,rfl⟩,hd.1,hd.2,Ge⟩;rw[hex];unfold Instr.mapUpdate;simp only[Sem.run_bind,run_underlying hu,Result.andThen_ok,hme,getObj,Sem.run,hw,Result.andThen,qp J2 D8];rw[sq J2 (r:=none) (by rw[dA];simpa using hfind)];simp[setObj,Sem.run,hw,blk]
     |some p=>
      obtain⟨j,v⟩:=p;obtain⟨_,xk,s,WD,hsame⟩:=pq j v rfl;rw[Nat.sub_zero]at WD;dsimp only at hp;rw[cL]at hp
      have hd:=so (o1:= .map (HD es j ((aD x).ev e) ((aD y).ev e)) cl) (b1:= .map ((es.map dB).toArray.modify j fun q=>{q with key:=a.eval x,val:=a.eval y}) cl) hr bZ rfl rfl hw rfl rfl (fun _ h=> .map _ _ (by
       rw[h,J3,dA,HO];simp) (EE Ng hs))
      refine⟨_,undef,_,c,_,hp,.inr ⟨?_,rfl⟩,hd.1,hd.2,Ge⟩;rw[hex]
      have hold:(((es.map dB).toArray[j]?).map (·.key)).getD (a.eval x)=a.eval x:=by
       simp[WD,dB,dA,EF Pg hsame]
      unfold Instr.mapUpdate;simp only[Sem.run_bind,run_underlying hu,Result.andThen_ok,hme,getObj,Sem.run,hw,Result.andThen,qp J2 D8];rw[sq J2 (r:=some (j,valOf 4 v)) (by rw[dA];simpa using hfind)]
      have TL:(Instr.keyThatStays (a.eval x) (a.eval x)).run P w= .ok (a.eval x) w:=by
       unfold Instr.keyThatStays;rw[dA,J4 Pg];simp
      simp only[Result.andThen_ok,hold,TL,Sem.run_bind];simp[setObj,Sem.run,hw,blk]
   ·exact hp.elim
  ·exact hp.elim
 ·exact hp.elim
theorem HX(hr:bT c h w)(he:ER c h w e a.tmps){cl:Call}{x:Operand}{t kt et:TypeId}(ho:o.op= .call cl)(eD:cl.callee= .builtin .len)(hargs:cl.args.toList=[x])(js:cl.argTypes.toList=[t])(hu:P.underlying t=some (.map kt et))
  (hp:bF P Γ (.Ef (aD x)) e h k kp):dW P c h w a o k:=by
 simp only[bF,aE]at hp;have hx:=he.ev x;obtain⟨n,l⟩:=h;have de:cl.args= #[x]:=by simpa using congrArg List.toArray hargs
 have kW:cl.argTypes= #[t]:=by simpa using congrArg List.toArray js
 split at hp
 ·rename_i hev
  rw[hev]at hx;refine .of _ _ hp ?_ .int;simp[execOp,ho,resolve,eD,de,kW,invoke,builtin,Builtin.len_,run_underlying hu,hx.nq,goInt]
 ·rename_i ii g n' l' hev hh
  cases hh
  rw[hev]at hx;simp only[bg]at hp;split at hp
  ·rename_i ob bZ
   split at hp
   ·rename_i es c2
    replace hp:=ah.1 hp
    obtain⟨hg,hp⟩:=hp;obtain rfl:=Nat.eq_of_beq_eq_true hg;have dA:=hx.nu (o:= .map es c2) bZ rfl;cases hr.obj ii _ bZ with
    |map _ _ hw hs=>
     refine .of _ _ hp ?_ .int;simp[execOp,ho,resolve,eD,de,kW,invoke,builtin,Builtin.len_,run_underlying hu,dA,getObj,Sem.run,hw,goInt]
   ·exact hp.elim
  ·exact hp.elim
 ·exact hp.elim
theorem HY(he:ER c h w e a.tmps){ok:Bool}{t xt:TypeId}{x:Operand}{i:TypeInfo}{z:Value}{d:TypeDesc}(ho:o.op= .typeAssert x xt t ok)(hu:P.underlying t=some d)(hd: ∀ms,d≠ .interface ms)(hi:P.info? t=some i)(hz:i.zero=some z)
  (hp:bF P Γ (.BF t (bw 4 z) ok (aD x)) e h k kp):dW P c h w a o k:=by
 simp only[bF,aE]at hp;have hx:=he.ev x;have Eo:VR c h w (bw 4 z) z:= .pure (ei 4 z);have TK:(zeroValue t).run P w= .ok z w:=iU hi hz;split at hp
 ·rename_i u v hev
  rw[hev]at hx;obtain⟨y,dA,hv⟩:=hx.gW;rcases Bw hp with⟨hb,tE⟩|⟨hb,hp⟩
  ·clear hp
   obtain rfl:=Nat.eq_of_beq_eq_true hb;rcases Bw tE with⟨rfl,hp⟩|⟨rfl,hp⟩
   ·refine .of _ _ hp ?_ (oA hv .bool)
    cases d<;>first|exact absurd rfl (hd _)|simp[execOp,ho,dA,Instr.typeAssert,run_underlying hu]
   ·refine .of _ _ hp ?_ hv
    cases d<;>first|exact absurd rfl (hd _)|simp[execOp,ho,dA,Instr.typeAssert,run_underlying hu]
  ·have hne: ¬u=t:=fun h=>by subst h;rw[Nat.beq_refl]at hb;cases hb
   rcases Bw hp with⟨rfl,hp⟩|⟨rfl,hp⟩
   ·refine .of _ _ hp ?_ (oA Eo .bool)
    cases d<;>first|exact absurd rfl (hd _)|simp[execOp,ho,dA,Instr.typeAssert,run_underlying hu,hne,TK]
   ·exact hp.elim
 ·rename_i hev
  rw[hev]at hx;have dA:=hx.kg;rcases Bw hp with⟨rfl,hp⟩|⟨rfl,hp⟩
  ·refine .of _ _ hp ?_ (oA Eo .bool)
   cases d<;>first|exact absurd rfl (hd _)|simp[execOp,ho,dA,Instr.typeAssert,run_underlying hu,TK]
  ·exact hp.elim
 ·exact hp.elim
theorem Ci(he:ER c h w e a.tmps){neg:Bool}{t yt:TypeId}{x y:Operand}{ms:Array (String×TypeId)}(ho:o.op= .binOp (if neg then .neq else .eql) t x y yt)(hu:P.underlying t=some (.interface ms))(Xu:(isConst x||isConst y)=true)
  (hp:bF P Γ (.MP neg (aD x) (aD y)) e h k kp):dW P c h w a o k:=by
 simp only[bF,aE]at hp;have hx:=he.ev x;have hy:=he.ev y
 have EG: ∀(xx yy:Value) (b:Bool),(xx= .nilIface/\yy= .nilIface/\b=true)\/(xx= .nilIface/\(∃ u v,yy= .iface u v)/\b=false)\/((∃ u v,xx= .iface u v)/\yy= .nilIface/\b=false)->(Op.equal t xx yy).run P w= .ok b w:=by
  intro xx yy b hh;unfold Op.equal;rw[show Op.maxDepth=9999+1 from rfl];unfold Op.equalIn;rcases hh with⟨rfl,rfl,rfl⟩|⟨rfl,⟨u,v,rfl⟩,rfl⟩|⟨⟨u,v,rfl⟩,rfl,rfl⟩<;>simp[run_underlying hu]
 have iL: ∀(op:BinOp) (xx yy:Value),(xx= .nilIface/\yy= .nilIface)\/(xx= .nilIface/\(∃ u v,yy= .iface u v))\/((∃ u v,xx= .iface u v)/\yy= .nilIface)->(eqGuard op t x y xx yy).run P w= .ok () w:=by
  intro op xx yy hh;unfold eqGuard;rcases hh with⟨rfl,rfl⟩|⟨rfl,u,v,rfl⟩|⟨⟨u,v,rfl⟩,rfl⟩
  ·clear hp hx hy ho
   cases op<;>first|rfl|(cases x<;>cases y<;>first|rfl|(simp[isConst]at Xu))
  ·cases op<;>rfl
  ·cases op<;>rfl
 have fin: ∀(b:Bool),(a.eval x= .nilIface/\a.eval y= .nilIface/\b=true)\/(a.eval x= .nilIface/\(∃ u v,a.eval y= .iface u v)/\b=false)\/((∃ u v,a.eval x= .iface u v)/\a.eval y= .nilIface/\b=false)->
   (execOp a.eval o).run P w= .ok (.value (.bool (if neg then !b else b))) w:=by
  intro b hh;have h1:=EG _ _ b hh;have h2:=iL (if neg then .neq else .eql) (a.eval x) (a.eval y) (by rcases hh with⟨p,q,_⟩|⟨p,q,_⟩|⟨p,q,_⟩;exact .inl ⟨p,q⟩;exact .inr (.inl ⟨p,q⟩);exact .inr (.inr ⟨p,q⟩))
  have hb:(binOp (if neg then .neq else .eql) t (a.eval x) (a.eval y)).run P w= .ok (.bool (if neg then !b else b)) w:=by
   rcases hh with⟨p,q,_⟩|⟨p,⟨u,v,q⟩,_⟩|⟨⟨u,v,p⟩,q,_⟩<;>(rw[p,q]at h1 ⊢;cases neg<;>simp[binOp,h1])
  simp only[execOp,ho,Sem.run_bind,h2,Result.andThen_ok,hb];rfl
 split at hp
 ·rename_i h1 h2
  rw[h1]at hx;rw[h2]at hy
  have:=fin true (.inl ⟨hx.kg,hy.kg,rfl⟩);cases neg<;>exact .of _ _ hp this .bool
 ·rename_i u v h1 h2
  rw[h1]at hx;rw[h2]at hy
  obtain⟨yy,HO,_⟩:=hy.gW;have:=fin false (.inr (.inl ⟨hx.kg,⟨_,_,HO⟩,rfl⟩));cases neg<;>exact .of _ _ hp this .bool
 ·rename_i u v h1 h2
  rw[h1]at hx;rw[h2]at hy
  obtain⟨yy,HO,_⟩:=hx.gW;have:=fin false (.inr (.inr ⟨⟨_,_,HO⟩,hy.kg,rfl⟩));cases neg<;>exact .of _ _ hp this .bool
 ·exact hp.elim
theorem pP(he:ER c h w e a.tmps)(len cap:Nat){lo hi:Option Operand}{mx:Operand}{K:Int->Int->Int->Prop}(hp:iw e 0 (lo.map aD) fun l=>iw e len (hi.map aD) fun hh=>iw e 0 (some (aD mx)) fun mm=>K l hh mm):
  ∃l hh mm,K l hh mm/\(hi≠none->0<=l->l<=hh->hh<=mm->mm<=cap->(Instr.sliceBounds true len cap (lo.map a.eval) (hi.map a.eval) (some (a.eval mx))).run P w= .ok (l.toNat,hh.toNat,mm.toNat) w):=by
 have hm: ∀ {K:Int->Prop},iw e 0 (some (aD mx)) K-> ∃kk n,K n/\a.eval mx= .int kk n:=by
  intro K hk;rcases lG he (x:=some mx) hk with⟨h,_⟩|⟨y,kk,n,h,hy,hk⟩
  ·cases h
  ·cases h;exact⟨kk,n,hk,hy⟩
 rcases lG he hp with⟨rfl,Qm⟩|⟨y,kk,n,rfl,hy,Qm⟩
 ·rcases lG he Qm with⟨rfl,tE⟩|⟨y,kk,n,rfl,hy,tE⟩
  ·obtain⟨_,mm,Qt,_⟩:=hm tE
   exact⟨_,_,_,Qt,fun h=>absurd rfl h⟩
  ·obtain⟨k3,mm,Qt,h3⟩:=hm tE
   refine⟨_,_,_,Qt,fun _ h0 h1 h2 h4=> ?_⟩;have e1:=ia (P:=P) (w:=w) (kk:=k3) .slice3Acap (show 0<=mm by omega) (show mm<=(cap:Int) by omega);have e2:=ia (P:=P) (w:=w) (kk:=kk) (y:=mm.toNat) .slice3B (show 0<=n by omega) (by omega);simp[Instr.sliceBounds,hy,h3,e1,e2]
 ·rcases lG he Qm with⟨rfl,tE⟩|⟨y2,Y2,n2,rfl,Qn,tE⟩
  ·obtain⟨_,mm,Qt,_⟩:=hm tE
   exact⟨_,_,_,Qt,fun h=>absurd rfl h⟩
  ·obtain⟨k3,mm,Qt,h3⟩:=hm tE
   refine⟨_,_,_,Qt,fun _ h0 h1 h2 h4=> ?_⟩;have e1:=ia (P:=P) (w:=w) (kk:=k3) .slice3Acap (show 0<=mm by omega) (show mm<=(cap:Int) by omega);have e2:=ia (P:=P) (w:=w) (kk:=Y2) (y:=mm.toNat) .slice3B (show 0<=n2 by omega) (by omega);have e3:=ia (P:=P) (w:=w) (kk:=kk) (y:=n2.toNat) .slice3C (show 0<=n by omega) (by omega);simp[Instr.sliceBounds,hy,Qn,h3,e1,e2,e3]
theorem Cj(he:ER c h w e a.tmps){t el:TypeId}{x mx:Operand}{lo hi:Option Operand}{i:TypeInfo}(ho:o.op= .slice t x lo hi (some mx))(hhi:hi≠none)(hu:P.underlying t=some (.slice el))(hi':P.info? el=some i)
  (hp:bF P Γ (.slice3 i.size (aD x) (lo.map aD) (hi.map aD) (aD mx)) e h k kp):dW P c h w a o k:=by
 simp only[bF,aE]at hp;have hx:=he.ev x
 have hrun: ∀(ad:Option Addr) (len cap l hh m:Nat),a.eval x= .slice ad len cap->(Instr.sliceBounds true len cap (lo.map a.eval) (hi.map a.eval) (some (a.eval mx))).run P w= .ok (l,hh,m) w->
   (execOp a.eval o).run P w= .ok (.value (.slice (if m=l then ad else ad.map (·.add (l*i.size))) (hh-l) (m-l))) w:=by
  intro ad len cap l hh m hx hr;simp[execOp,ho,hx,Instr.sliceAt,run_underlying hu,Instr.slice,hr,dy hi']
 split at hp
 ·rename_i sz n get h1
  rw[h1]at hx
  replace hp:=ah.1 hp
  obtain⟨hsz,hp⟩:=hp;have hsz:=Nat.eq_of_beq_eq_true hsz;obtain⟨ad,cap,dA,hnc,jn⟩:=hx.oh;obtain⟨l,hh,mm,hp,yo⟩:=pP (P:=P) (w:=w) he n cap hp
  replace hp:=ah.1 hp
  obtain⟨hb,hp⟩:=hp;simp only[Bool.and_eq_true,decide_eq_true_eq]at hb;obtain⟨⟨h0,h1⟩,h2,h3⟩:=hb;refine .of _ _ hp (hrun _ _ _ _ _ _ dA (yo hhi h0 h1 h2 (by omega))) ?_;by_cases hz:hh.toNat-l.toNat=0
  ·rw[hz]
   exact .pure (.pE _ _ _ _)
  ·rcases jn with rfl|⟨b,off,C,ty,fz,rfl,hb,hw,hn,hc,hcell⟩
   ·omega
   ·rw[if_neg (by omega)]
    simp only[Option.map_some,add_eq];refine .pure (.aW sz _ _ b (off+l.toNat*i.size) _ C ty fz hb hw ?_ (by omega) (fun j hj=>hc _ (by omega)) fun j j' v y hj hv hy=>hcell (l.toNat+j) j' v y (by omega) hv ?_)
    ·have e1:(l.toNat+(hh.toNat-l.toNat))*sz<=n*sz:=Nat.mul_le_mul_right _ (by omega)
     rw[Nat.add_mul]at e1;rw[<- hsz];omega
    ·rw[<- hy,<-hsz,Nat.add_mul]
     congr 1
     omega
 ·rename_i ii g sz off len cap hev
  rw[hev]at hx;clear hev
  replace hp:=ah.1 hp
  obtain⟨hsz,hp⟩:=hp;have hsz:=Nat.eq_of_beq_eq_true hsz;obtain⟨hp,sz',elems,sk,bZ⟩:=eR hp;obtain⟨iz,ad,cc,dA,hlc,hcap,jn⟩:=hx.iS bZ rfl;obtain⟨l,hh,mm,hp,yo⟩:=pP (P:=P) (w:=w) he len cc hp
  replace hp:=ah.1 hp
  obtain⟨hb,hp⟩:=hp;simp only[Bool.and_eq_true,decide_eq_true_eq]at hb;obtain⟨⟨h0,h1⟩,h2,h3⟩:=hb
  have hmc:mm.toNat<=cc:=by
   cases cap with
   |some cp=>have:=hcap cp rfl;dsimp only at h3;omega
   |none=>dsimp only at h3;omega
  refine .of _ _ hp (hrun _ _ _ _ _ _ dA (yo hhi h0 h1 h2 (by omega))) ?_;cases hx with
  |pure hx=>cases hx
  |sl _ _ _ _ _ _ _ _ hi hg _=>
  refine .sl _ _ _ _ _ _ _ ⟨_,_,_,rfl⟩ hi hg fun o' ho' hgo=> ?_
  rw[bZ]at ho';cases ho'
  by_cases hz:mm.toNat=l.toNat
  ·rw[if_pos hz]
   exact⟨iz,ad,_,rfl,by omega,fun k hk=>by cases hk;rfl,.inl (by omega),fun h=>by cases h⟩
  ·rw[if_neg hz]
   simp only[Option.map_some];refine⟨iz,_,_,rfl,by omega,fun k hk=>by cases hk;rfl,.inr ?_,fun h=>by cases h⟩;rcases jn with h0|⟨rfl,ty,n,hsh,hle'⟩
   ·omega
   ·refine⟨by rw[add_eq,Nat.add_mul,hsz],ty,n,hsh,?_⟩
    have e1:(off+l.toNat)*sz+(mm.toNat-l.toNat)*sz=(off+mm.toNat)*sz:=by
     rw[<- Nat.add_mul];congr 1
     omega
    have e2:(off+mm.toNat)*sz<=(off+cc)*sz:=Nat.mul_le_mul_right _ (by omega);rw[Nat.add_mul off cc]at e2;omega
 ·rename_i h1
  rw[h1]at hx;obtain⟨l,hh,mm,hp,yo⟩:=pP (P:=P) (w:=w) he 0 0 hp
  replace hp:=ah.1 hp
  obtain⟨hb,hp⟩:=hp;simp only[Bool.and_eq_true,decide_eq_true_eq]at hb;obtain⟨h0,h1,h2⟩:=hb;subst h0;subst h1;subst h2
  refine .of _ _ hp (hrun _ _ _ _ _ _ hx.cF (yo hhi (by omega) (by omega) (by omega) (by omega))) ?_;exact .pure .af
 ·exact hp.elim
theorem Ck: ∀ {s:List Nat} {n:Nat},mO s n=s.contains n
 | [],n=>rfl
 |x::r,n=>by
  unfold mO;rw[List.contains_cons,Ck];rcases bO x n with⟨h,h'⟩|⟨h,h'⟩
  ·rw[h];subst h';simp
  ·rw[h]
   have:(n==x)=false:=by simpa using fun e=>h' e.symm
   rw[this];rfl
theorem wD: ∀(es:List (SV×SV×Nat)) (s:List Nat),(oR es s).map dB=(es.map dB).filter fun e=> !s.contains e.born
 | [],s=>rfl
 |x::r,s=>by
  unfold oR;rw[Ck,List.map_cons,List.filter_cons];show _=if(!s.contains x.2.2)=true then _ else _
  cases s.contains x.2.2
  ·simp[wD r s]
  ·simp[wD r s]
theorem Cl{p:SV->SV->Nat->Prop}: ∀ {l:List (SV×SV×Nat)},Qj l p-> ∀x∈l,p x.1 x.2.1 x.2.2
 | [],_,x,h=>by cases h
 |y::r,⟨h1,h2⟩,x,h=>by
  rcases List.mem_cons.1 h with rfl|h
  ·exact h1
  ·exact Cl h2 x h
theorem Cm: ∀(es:List (SV×SV×Nat)) (s:Nat) {kk v:SV},F1 es s=some (kk,v)-> ∃e,(es.map dB).find? (fun x=>x.born==s)=some e/\e.key=valOf 4 kk/\e.val=valOf 4 v/\ ∃x∈es,x.1=kk/\x.2.1=v
 | [],s,kk,v,h=>by cases h
 |x::r,s,kk,v,h=>by
  unfold F1 at h;rw[List.map_cons,List.find?_cons];show ∃e,(match x.2.2==s with|true=>_|false=>_)=some e/\_;rcases bO x.2.2 s with⟨hb,h'⟩|⟨hb,h'⟩
  ·rw[hb]at h
   cases h
   rw[beq_iff_eq.2 h'];exact⟨_,rfl,rfl,rfl,x,List.mem_cons_self ..,rfl,rfl⟩
  ·rw[hb]at h
   have:(x.2.2==s)=false:=by simpa using h'
   rw[this];obtain⟨e,h1,h2,h3,y,hy,h4⟩:=Cm r s h;exact⟨e,h1,h2,h3,y,List.mem_cons_of_mem _ hy,h4⟩
theorem Cn: ∀(l:List Nat),l.getLast? =JP l
 | []=>rfl
 | [x]=>rfl
 |x::y::r=>by
  rw[List.getLast?_cons_cons,Cn (y::r)];rfl
theorem HZ{es:List (SV×SV×Nat)}{q:Nat->Bool}(h:(es.all fun x=>q x.2.2&&(eB 4 x.1&&eB 4 x.2.1))=true): ∀x∈es,q x.2.2=true/\eB 4 x.1=true/\eB 4 x.2.1=true:=fun x hx=>by
 have:=List.all_eq_true.1 h x hx;simpa only[Bool.and_eq_true]using this
theorem EH(hr:bT c h w)(he:ER c h w e a.tmps){x:Operand}(ho:o.op= .next x false)(hp:bF P Γ (.yV (aD x)) e h k kp):jt P c h w a o k:=by
 simp only[bF,aE]at hp;have hx:=he.ev x;obtain⟨n,l⟩:=h;split at hp
 ·rename_i j g idx sub n' l' hev hh
  cases hh
  rw[hev]at hx
  replace hp:=ah.1 hp
  obtain⟨Nh,hp⟩:=hp;simp only[Bool.and_eq_true]at Nh;obtain rfl:=Nat.eq_of_beq_eq_true Nh.1;obtain rfl:=Nat.eq_of_beq_eq_true Nh.2;simp only[bg]at hp;split at hp
  ·rename_i ob bZ
   split at hp
   ·rename_i m since seen stepped
    split at hp
    ·rename_i i g'
     replace hp:=ah.1 hp
     obtain⟨hg',hp⟩:=hp;obtain rfl:=Nat.eq_of_beq_eq_true hg';split at hp
     ·rename_i Xv sr
      split at hp
      ·rename_i es cl
       replace hp:=ah.1 hp
       obtain⟨hall,hp⟩:=hp;simp only[Bool.and_eq_true]at hall;have hsc:=Nat.le_of_ble_eq_true hall.1;have Y5:=HZ (q:=fun n=>Nat.blt n since) hall.2;have dA:=hx.eK (o:= .cy (.cW i 0) since seen stepped) bZ rfl;have dA:a.eval x= .pointer (some ⟨c.β j,0,none⟩):=by simpa[ai.sz]using dA
       cases hr.obj j _ bZ with
       |cy _ _ _ _ r hw hm=>
       cases hr.obj i _ sr with
       |map _ _ hw' hs=>
       have Ni:=hm.nu (o:= .map es cl) sr rfl;have Ni:r=some (c.β i):=by simpa using Ni
       subst Ni;have hlt:c.β j<w.heap.size:=(hr.obj j _ bZ).lt
       have hleft:leftOf (es.map dB).toArray seen.toArray=((oR es seen).map dB).toArray:=by
        unfold leftOf;rw[wD];simp
       rcases run_next_at (P:=P) w o.type (c.β j) (c.β i) since stepped seen.toArray (es.map dB).toArray cl hw hw' (fun y hy=>by
        obtain⟨z,hz,rfl⟩:=List.mem_map.1 (show y∈es.map dB from hy);show z.2.2<since;exact Nat.lt_of_succ_le (by simpa[Nat.blt]using (Y5 z hz).1)) hsc with⟨h0,hrun⟩|⟨en,wE,w1,hw1,hrun⟩
       ·rw[hleft]at h0
        have:oR es seen=[]:=by simpa using h0
        rw[this]at hp;exact⟨_,.tuple #[.bool false],_,c,w,hp,.inl (by simp[execOp,ho,dA,hrun]),hr,.refl,Gc .bool⟩
       ·rw[hleft]at wE
        obtain⟨z,hz,rfl⟩:=List.mem_map.1 (show en∈(oR es seen).map dB from wE)
        have hp:mM l j (.cy (.cW i 0) since (seen++[z.2.2]) cl) fun l'=>k (.bn [.bool true,z.1,z.2.1]) ⟨n,l'⟩:=by
         revert hp;cases hL:oR es seen with
         |nil=>rw[hL]at hz;cases hz
         |cons y r=>intro hp;rw[hL]at hz;exact Cl hp z hz
        rw[cL]at hp
        have hsub: ∀ {q:SV×SV×Nat},q∈oR es seen->q∈es:=by
         have: ∀(es:List (SV×SV×Nat)),∀q∈oR es seen,q∈es:=fun es=>by
          induction es with
          |nil=>intro q hq;cases hq
          |cons y r ih=>
           intro q hq;unfold oR at hq;cases hb:mO seen y.2.2
           ·rw[hb]at hq
            rcases List.mem_cons.1 hq with rfl|hq
            ·exact List.mem_cons_self ..
            ·exact List.mem_cons_of_mem _ (ih q hq)
           ·rw[hb]at hq;exact List.mem_cons_of_mem _ (ih q hq)
         exact fun{q} hq=>this es q hq
        have og:bT c ⟨n,l⟩ w1:=by rcases hw1 with rfl|rfl;exact hr;exact nH hr
        have hx1:Ext c ⟨n,l⟩ w c ⟨n,l⟩ w1:=by rcases hw1 with rfl|rfl;exact .refl;exact ko
        have TM:w1.heap=w.heap:=by rcases hw1 with rfl|rfl<;>rfl
        obtain⟨gV,hx2⟩:=so (o1:= .cy (.cW i 0) since (seen++[z.2.2]) cl) (b1:= .mapIter (some (c.β i)) since (seen.toArray.push z.2.2) cl) og bZ rfl rfl (by rw[TM];exact hw) rfl rfl
         (fun hx H6=> .cy _ _ _ _ (some (c.β i)) (by rw[H6];simp) (hm.mono hr (hx1.trans hr hx)))
        have hzs:=Y5 z (hsub hz);refine⟨_,.tuple #[.bool true,valOf 4 z.1,valOf 4 z.2.1],_,c,_,hp,.inl ?_,gV,hx1.trans hr hx2,Gd .bool (.pure (ny 4 _ hzs.2.1)) (.pure (ny 4 _ hzs.2.2))⟩;simp[execOp,ho,dA,hrun]
        first|exact⟨⟨rfl,rfl⟩,rfl⟩|exact⟨rfl,rfl,rfl⟩
      ·exact hp.elim
     ·exact hp.elim
    ·exact hp.elim
   ·exact hp.elim
  ·exact hp.elim
 ·exact hp.elim
theorem EI(hr:bT c h w)(he:ER c h w e a.tmps){x:Operand}(ho:o.op= .entry x)(hp:bF P Γ (.entry (aD x)) e h k kp):jt P c h w a o k:=by
 simp only[bF,aE]at hp;have hx:=he.ev x;obtain⟨n,l⟩:=h;split at hp
 ·rename_i j g idx sub n' l' hev hh
  cases hh
  rw[hev]at hx
  replace hp:=ah.1 hp
  obtain⟨Nh,hp⟩:=hp;simp only[Bool.and_eq_true]at Nh;obtain rfl:=Nat.eq_of_beq_eq_true Nh.1;obtain rfl:=Nat.eq_of_beq_eq_true Nh.2;simp only[bg]at hp;split at hp
  ·rename_i ob bZ
   split at hp
   ·rename_i m since seen stepped
    split at hp
    ·rename_i i g'
     replace hp:=ah.1 hp
     obtain⟨hg',hp⟩:=hp;obtain rfl:=Nat.eq_of_beq_eq_true hg';split at hp
     ·rename_i Xv sr
      split at hp
      ·rename_i es cl
       replace hp:=ah.1 hp
       obtain⟨hall,hp⟩:=hp;simp only[Bool.and_eq_true]at hall;obtain rfl:=Nat.eq_of_beq_eq_true hall.1;have dA:=hx.eK (o:= .cy (.cW i 0) since seen cl) bZ rfl;have dA:a.eval x= .pointer (some ⟨c.β j,0,none⟩):=by simpa[ai.sz]using dA
       split at hp
       ·rename_i s hs
        split at hp
        ·rename_i kk v hf
         obtain⟨en,h1,h2,h3,z,hz,rfl,rfl⟩:=Cm es s hf;have hzs:=List.all_eq_true.1 hall.2 z hz;simp only[Bool.and_eq_true]at hzs;cases hr.obj j _ bZ with
         |cy _ _ _ _ r hw hm=>
         cases hr.obj i _ sr with
         |map _ _ hw' hs'=>
         have Ni:=hm.nu (o:= .map es cl) sr rfl;have Ni:r=some (c.β i):=by simpa using Ni
         subst Ni;have hb:seen.toArray.back? =some s:=by rw[<- hs,<-Cn];simp[Array.back?,List.getLast?_eq_getElem?]
         have hf':(es.map dB).toArray.find? (fun x=>x.born==s)=some en:=by rw[<- Array.find?_toList];exact h1
         refine⟨_,.tuple #[valOf 4 z.1,valOf 4 z.2.1],_,c,w,hp,.inl ?_,hr,.refl,oA (.pure (ny 4 _ hzs.1)) (.pure (ny 4 _ hzs.2))⟩;simp[execOp,ho,dA,Instr.entry,getObj,Sem.run,hw,hw',hb,hf',h2,h3]
        ·exact hp.elim
       ·exact hp.elim
      ·exact hp.elim
     ·exact hp.elim
    ·exact hp.elim
   ·exact hp.elim
  ·exact hp.elim
 ·exact hp.elim
theorem Co(hr:bT c h w)(he:ER c h w e a.tmps){neg:Bool}{t yt el:TypeId}{x y:Operand}(ho:o.op= .binOp (if neg then .neq else .eql) t x y yt)(hu:P.underlying t=some (.slice el))
  (hp:bF P Γ (.JL neg (aD x) (aD y)) e h k kp):dW P c h w a o k:=by
 simp only[bF,aE]at hp;have hx:=he.ev x;have hy:=he.ev y
 have fin: ∀(b:Bool) (s1 s2:Option Addr) (l1 c1 l2 c2:Nat),a.eval x= .slice s1 l1 c1->a.eval y= .slice s2 l2 c2->(s1=none/\b=s2.isNone\/(∃ q,s1=some q)/\s2=none/\b=false)->
   (execOp a.eval o).run P w= .ok (.value (.bool (if neg then !b else b))) w:=by
  intro b s1 s2 l1 c1 l2 c2 hx hy hh
  have h1:(Op.equal t (.slice s1 l1 c1) (.slice s2 l2 c2)).run P w= .ok b w:=by
   unfold Op.equal;rw[show Op.maxDepth=9999+1 from rfl];unfold Op.equalIn;rcases hh with⟨rfl,rfl⟩|⟨⟨q,rfl⟩,rfl,rfl⟩<;>simp[run_underlying hu]
  have h2:(eqGuard (if neg then .neq else .eql) t x y (a.eval x) (a.eval y)).run P w= .ok () w:=by
   unfold eqGuard;rw[hx,hy];cases neg<;>rfl
  have hb:(binOp (if neg then .neq else .eql) t (a.eval x) (a.eval y)).run P w= .ok (.bool (if neg then !b else b)) w:=by
   rw[hx,hy];cases neg<;>simp[binOp,h1]
  simp only[execOp,ho,Sem.run_bind,h2,Result.andThen_ok,hb];rfl
 have Gf: ∀ {sz n:Nat} {get:Nat->SV} {v:Value},Nat.blt 0 n=true->VR c h w (.aW sz n get) v-> ∃q cc,v= .slice (some q) n cc:=fun{sz n get v} hn hv=>by
  cases hv with
  |pure hp=>
   cases hp with
   |pE=>cases hn
   |aW _ _ _ b off cap C ty fz hb hw hn hcap hc h=>exact⟨_,_,rfl⟩
 have live: ∀ {i g:Nat} {p:Prop},gF h i g p->p/\ ∃o,h.obj i=some o/\o.gen=g:=fun{i g p} hl=>by
  obtain⟨n,l⟩:=h;unfold gF at hl;simp only[bg]at hl;split at hl
  ·rename_i ob bZ
   split at hl
   ·replace hl:=ah.1 hl
    exact⟨hl.2,_,bZ,Nat.eq_of_beq_eq_true hl.1⟩
   ·exact hl.elim
  ·exact hl.elim
 split at hp
 ·rename_i h1 h2
  rw[h1]at hx;rw[h2]at hy
  have:=fin true _ _ _ _ _ _ hx.cF hy.cF (.inl ⟨rfl,rfl⟩);cases neg<;>exact .of _ _ hp this .bool
 ·rename_i i g sz off len cap h1 h2
  rw[h1]at hx;rw[h2]at hy
  obtain⟨hp,ob,bZ,hg⟩:=live hp;obtain⟨_,q,cc,HO,_⟩:=hy.iS bZ hg;have:=fin false _ _ _ _ _ _ hx.cF HO (.inl ⟨rfl,rfl⟩);cases neg<;>exact .of _ _ hp this .bool
 ·rename_i i g sz off len cap h1 h2
  rw[h1]at hx;rw[h2]at hy
  obtain⟨hp,ob,bZ,hg⟩:=live hp;obtain⟨_,q,cc,dA,_⟩:=hx.iS bZ hg;have:=fin false _ _ _ _ _ _ dA hy.cF (.inr ⟨⟨q,rfl⟩,rfl,rfl⟩);cases neg<;>exact .of _ _ hp this .bool
 ·rename_i sz n get h1 h2
  rw[h1]at hx;rw[h2]at hy
  replace hp:=ah.1 hp
  obtain⟨q,cc,HO⟩:=Gf hp.1 hy;have:=fin false _ _ _ _ _ _ hx.cF HO (.inl ⟨rfl,rfl⟩);cases neg<;>exact .of _ _ hp.2 this .bool
 ·rename_i sz n get h1 h2
  rw[h1]at hx;rw[h2]at hy
  replace hp:=ah.1 hp
  obtain⟨q,cc,dA⟩:=Gf hp.1 hx;have:=fin false _ _ _ _ _ _ dA hy.cF (.inr ⟨⟨q,rfl⟩,rfl,rfl⟩);cases neg<;>exact .of _ _ hp.2 this .bool
 ·exact hp.elim
theorem za: ∀ {l:List (Nat×ai)} {i:Nat} {o:ai},ak l i=some o->bt l i o=l
 | [],_,_,h=>by cases h
 |(s,p)::r,i,o,h=>by
  unfold ak at h;unfold bt;by_cases e:s=i
  ·rw[if_pos e]at h ⊢
   cases h;rfl
  ·rw[if_neg e]at h ⊢
   rw[za h]
theorem J5{n:Nat}{l:List (Nat×ai)}(hr:bT c ⟨n,l⟩ w){ii g iK:Nat}{elems xs:List SV}{sk:Sk}{news:List Value}(bZ:ak l ii=some (.vec g iK elems sk)){p0:Nat}(hL:LW c ⟨n,l⟩ w iK xs news)(h1: ∀u∈news,u.oneCell'=true)(hle:p0+xs.length<=elems.length):
  ∃w',(storeCells ⟨c.β ii,p0*iK,none⟩ news).run P w= .ok () w'/\bT c ⟨n,bt l ii (.vec g iK (fL elems p0 xs) sk)⟩ w'/\Ext c ⟨n,l⟩ w c ⟨n,bt l ii (.vec g iK (fL elems p0 xs) sk)⟩ w':=by
 cases hr.obj ii _ bZ with
 |vec _ _ _ _ C ty fz hw yz heq hty hc hf hcell=>
  have hel: ∀p,(fL elems p0 xs)[p]? =if p0<=p/\p<p0+xs.length then xs[p-p0]? else elems[p]? :=fun p=>ju _ _ _ _ hle
  have hlen:=fZ elems p0 xs;have e0:(p0+xs.length)*iK<=elems.length*iK:=Nat.mul_le_mul_right _ hle;rw[Nat.add_mul]at e0;obtain⟨w',C',hst,e1,e2,e3,e4,e5,e6,e7,e8⟩:=iV P (c.β ii) (p0*iK) ty fz news 0 C w hw hf (by right;rw[hL.1];omega) h1;have rI:w'.shape? (c.β ii)=w.shape? (c.β ii):=by simp only[World.shape?,e6,hw,e7]
  have MQ:=BX (n:=n) (elems':=fL elems p0 xs) (yA:=sk) bZ (Nat.le_refl _) e1 e2 e3 e4 e5 rI
  have B5: ∀v∈fL elems p0 xs,v.cells.length=iK:=by
   intro v hv;obtain⟨p,hp⟩:=List.mem_iff_getElem?.1 hv;rw[hel]at hp;split at hp
   ·exact hL.2.1 v (List.mem_of_getElem? hp)
   ·exact hc v (List.mem_of_getElem? hp)
  refine⟨w',hst,BY hr bZ MQ e4 e5 e6 (by rw[hlen,e7];exact yz) (fun hs=>by rw[hlen,e7];exact heq hs) hty B5 (by rw[e7];exact hf) (fun p j ee v z' uE hv HT=> ?_),MQ⟩;have hj:j<iK:=by rw[<- B5 ee (List.mem_of_getElem? uE)];exact eT hv
  rw[e8]at HT;simp only[Nat.add_zero]at HT;rw[hel]at uE;by_cases hin:p0<=p/\p<p0+xs.length
  ·rw[if_pos hin]at uE
   have e9:p*iK=p0*iK+(p-p0)*iK:=by rw[<- Nat.add_mul];congr 1;omega
   have hlt2:=rJ (sz:=iK) (eT uE) hj;rw[if_pos (by rw[hL.1];omega)]at HT;refine hL.2.2 _ j ee v z' uE hv ?_;rw[<- HT];congr 1
   omega
  ·rw[if_neg hin]at uE
   have hout: ¬(p0*iK<=p*iK+j/\p*iK+j<p0*iK+news.length):=by
    intro⟨q1,q2⟩;rw[hL.1,<-Nat.add_mul]at q2;rcases Nat.lt_or_ge p p0 with hlt|hge
    ·have:=rJ (sz:=iK) hlt hj
     omega
    ·have:p0+xs.length<=p:=by omega
     have:=Nat.mul_le_mul_right iK this;omega
   rw[if_neg hout]at HT;exact hcell p j ee v z' uE hv HT
theorem J6(hr:bT c h w)(he:ER c h w e a.tmps){cl:Call}{x:Operand}{t el:TypeId}{i:TypeInfo}{z:Value}(ho:o.op= .call cl)(eD:cl.callee= .builtin .clear)(hargs:cl.args.toList=[x])(js:cl.argTypes.toList=[t])
  (hu:P.underlying t=some (.slice el))(hi:P.info? el=some i)(hz:i.zero=some z)(hs:(bw 4 z).cells.length=i.size)(hk:(bw 4 z).known=true)
  (hp:bF P Γ (.Ts i.size (bw 4 z) (aD x)) e h k kp):jt P c h w a o k:=by
 simp only[bF,aE]at hp;have hx:=he.ev x;have de:cl.args= #[x]:=by simpa using congrArg List.toArray hargs
 have kW:cl.argTypes= #[t]:=by simpa using congrArg List.toArray js
 have hrun: ∀w',(Builtin.clear_ #[t] o.type #[a.eval x]).run P w= .ok (.tuple #[]) w'->(execOp a.eval o).run P w= .ok (.value (.tuple #[])) w':=by
  intro w' hrun;simp[execOp,ho,resolve,eD,de,kW,invoke,builtin,hrun]
 split at hp
 ·rename_i h1
  rw[h1]at hx;refine(dW.of _ (.tuple #[]) hp (hrun _ ?_) (.pure (.bn [] #[] rfl fun i v x hv=>by simp at hv))).does hr;rw[hx.cF];simp[Builtin.clear_,run_underlying hu]
 ·rename_i ii g sz' off len cap h1
  rw[h1]at hx
  replace hp:=ah.1 hp
  obtain⟨hsz,hp⟩:=hp;have hsz:=Nat.eq_of_beq_eq_true hsz;subst hsz;obtain⟨n,l⟩:=h;simp only[bg]at hp;split at hp
  ·rename_i ob bZ
   split at hp
   ·rename_i g' iK elems sk
    replace hp:=ah.1 hp
    obtain⟨hg,hp⟩:=hp;have hg:=Nat.eq_of_beq_eq_true hg;subst hg;rw[kn]at hp
    replace hp:=ah.1 hp
    obtain⟨hone,hp⟩:=hp;obtain⟨Qr,hp⟩:=ff.1 hp;rw[cL]at hp;obtain⟨iz,ad,cc,dA,hlc,hcap,jn⟩:=hx.iS (o:= .vec g' iK elems sk) bZ rfl;simp only[ai.sz]at iz;subst iz;by_cases hl0:len=0
    ·subst hl0
     refine(dW.of _ (.tuple #[]) ?_ (hrun _ ?_) (.pure (.bn [] #[] rfl fun i v x hv=>by simp at hv))).does hr
     ·have hsame:bt l ii (.vec g' i.size (fL elems off (List.replicate 0 (bw 4 z))) sk)=l:=za bZ
      rw[hsame]at hp;exact hp
     ·rw[dA]
      simp[Builtin.clear_,run_underlying hu]
    ·have Qr:off+len<=elems.length:=by
      rcases Qr with h|h
      ·exact absurd (by simpa using h) hl0
      ·simpa using h
     have Eo:VR c ⟨n,l⟩ w (bw 4 z) z:= .pure (ei 4 z);have hlr:=sj Eo hk hs len
     have hL:LW c ⟨n,l⟩ w i.size (List.replicate len (bw 4 z)) ((Array.range (len*i.size)).map (z.cells[· %z.cells.size]!)).toList:=
      ⟨by rw[Array.length_toList];exact hlr.1,hlr.2.1,fun i j e v x h1 h2 h3=>hlr.2.2 i j e v x h1 h2 (by rw[<- Array.getElem?_toList];exact h3)⟩
     obtain⟨w',hst,hr',hx'⟩:=J5 (P:=P) hr bZ (p0:=off) hL (hL.one hone) (by simpa using Qr);rcases jn with h0|⟨rfl,ty,m,hsh,hle'⟩
     ·omega
     refine⟨_,.tuple #[],_,c,w',hp,.inl (hrun _ ?_),hr',hx',.pure (.bn [] #[] rfl fun i v x hv=>by simp at hv)⟩;rw[dA];have hzs:z.cells.size=i.size:=wA hk hs
     have Z9:Builtin.zeroCells z.cells len=(Array.range (len*i.size)).map (z.cells[· %z.cells.size]!):=by
      unfold Builtin.zeroCells;rw[hzs]
     cases len with
     |zero=>exact absurd rfl hl0
     |succ len=>
      have Xw:(storeCells ⟨c.β ii,off*i.size,none⟩ (List.map (fun x=>z.cells[x%z.cells.size]!) (List.range ((len+1)*i.size)))).run P w= .ok () w':=by
       rw[<- hst];simp
      simp[Builtin.clear_,run_underlying hu,iU hi hz,Z9,Xw,Result.andThen_ok]
   ·exact hp.elim
  ·exact hp.elim
 ·exact hp.elim
end
end
end Ab
