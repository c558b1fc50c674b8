/- Parts of the proof of PCatalogBack, one behind the other, with short names. -/
import Derived.Test.YtegmnocpkgpgeaaGreatDoorZ1
import Derived.Lib.Bytealg
set_option linter.unusedVariables false
set_option linter.unusedSimpArgs false
namespace Ab
open Go
noncomputable section
inductive aY where
 |tmp (t:Nat)
 |const (v:SV)
inductive FZ where
 |int|str|bool
inductive qj where
 |aK (x:aY)
 |pick (c a b:aY)
 |box (ty:TypeId) (sz:Nat) (x:aY)
 |rz (ty:TypeId) (sz:Nat) (x:aY)
 |build (zero:List SV) (parts:List (Nat×Nat×aY))
 |buildSlice (ty:TypeId) (sz:Nat) (zero:SV) (n:Nat) (parts:List (Nat×aY))
 |aP (x:aY)
 |cO (n:Nat) (x:aY)
 |store (n:Nat) (x v:aY)
 |bin (op:BinOp) (x y:aY)
 |r7 (neg:Bool) (ks:List FZ) (x y:aY)
 |F0 (neg:Bool) (x y:aY)
 |un (op:UnOp) (x:aY)
 |conv (k:IntKind) (x:aY)
 |rA (x:aY)
 |toStr (x:aY)
 |qk (ty:TypeId) (x:aY)
 |cX (fn:Fn) (first captured:List aY)
 |eL (t:TypeId) (x:aY)
 |slice (sz:Nat) (x:aY) (lo hi:Option aY)
 |bN (x:aY) (lo hi:Option aY)
 |lE (n:Nat) (x:aY) (lo hi:Option aY)
 |fieldAddr (off:Nat) (x:aY)
 |om (off:Nat) (x:aY)
 |rB (off n:Nat) (x:aY)
 |indexAddr (sz:Nat) (x i:aY)
 |dZ (n sz:Nat) (x i:aY)
 |index (x i:aY)
 |extract (x:aY) (i:Nat)
 |len (isStr:Bool) (x:aY)
 |mm (isMax:Bool) (x y:aY)
 |makeSlice (ty:TypeId) (sz bytes:Nat) (zero:SV) (l c:aY)
 |append (ty:TypeId) (sz bytes:Nat) (s x:aY)
 |call (f:FuncId) (args:List aY)
 |iD (f:aY) (args:List aY)
 |aI (x:aY)
 |uy (x:aY)
 |mj (u:TypeId) (sz:Nat) (x:aY)
 |uz (x:aY)
 |An (id:Nat) (x y:aY)
 |nA (ty:TypeId) (x:aY)
 |MO (neg:Bool) (x y:aY)
 |iM (x:aY)
 |tC (e:TypeId) (x n:aY)
 |r8 (x:aY)
 |panic (x:aY)
 |rC (x:aY)
 |vU (x:aY)
 |tD (x:aY)
 |yV (x:aY)
 |mkMap
 |dw (isStr:Bool) (m k v:aY)
 |kM (isStr:Bool) (zero:SV) (ok:Bool) (m k:aY)
 |Ef (x:aY)
 |BF (t:TypeId) (zero:SV) (ok:Bool) (x:aY)
 |MP (neg:Bool) (x y:aY)
 |JL (neg:Bool) (x y:aY)
 |entry (x:aY)
 |slice3 (sz:Nat) (x:aY) (lo hi:Option aY) (mx:aY)
 |yW (x y:aY)
 |Ts (sz:Nat) (zero:SV) (x:aY)
 |JA (f:aY) (args:List aY)
 |O6
 |bad
structure aA where
 dst:Option Nat
 op:qj
 guard:Option (Nat×Bool):=none
 pre:List Nat:=[]
inductive bK where
 |skip
 |region (ops:List aA) (forget:List Nat)
 |aQ (ops:List aA) (ord:List (Nat×Bool×List Nat)) (forget:List Nat)
 |seq (a b:bK)
 |cond (c:aY) (a b:bK)
 |block (id:Nat) (b:bK)
 |loop (b:bK)
 |exit (id:Nat)
 |ret
 |bad
inductive bS where
 |normal|exit (id:Nat)|ret|panic (v:SV)
inductive bu where
 |ret (v:SV)|eY (v:SV)
abbrev Env:=List (Nat×SV)
def Env.get:Env->Nat->SV
 | [],_=> .undef
 |(s,v)::r,t=>bif Nat.beq s t then v else Env.get r t
def Env.put:Env->Nat->SV->Env
 | [],t,v=>[(t,v)]
 |(s,w)::r,t,v=>bif Nat.beq s t then(t,v)::r else(s,w)::Env.put r t v
def Env.drop:Env->Nat->Env
 | [],_=>[]
 |(s,w)::r,t=>bif Nat.beq s t then Env.drop r t else(s,w)::Env.drop r t
def Env.keep(p:Nat->Bool):Env->Env
 | []=>[]
 |(t,v)::r=>bif p t then Env.keep p r else(t,v)::Env.keep p r
def BG:List aA->Nat->Bool
 | [],_=>false
 |o::r,t=>(match o.dst with|some u=>Nat.beq u t|none=>false)||BG r t
def Env.u5{α:Sort _}:Env->Nat->(SV->α)->α
 | [],_,k=>k .undef
 |(s,v)::r,t,k=> @Bool.rec (fun _=>α) (Env.u5 r t k) (k v) (Nat.beq s t)
def Env.BH{α:Sort _}:Env->Nat->SV->(Env->α)->α
 | [],t,v,k=>k [(t,v)]
 |(s,w)::r,t,v,k=> @Bool.rec (fun _=>α) (Env.BH r t v fun r'=>k ((s,w)::r')) (k ((t,v)::r)) (Nat.beq s t)
def Env.BI{α:Sort _}:Env->Nat->(Env->α)->α
 | [],_,k=>k []
 |(s,w)::r,t,k=> @Bool.rec (fun _=>α) (Env.BI r t fun r'=>k ((s,w)::r')) (Env.BI r t k) (Nat.beq s t)
def Env.rD{α:Sort _}:List Nat->Env->(Env->α)->α
 | [],e,k=>k e
 |t::ts,e,k=>Env.BI e t fun e'=>Env.rD ts e' k
def eC{α:Sort _}:List (Nat×ai)->Nat->(ai->α)->α->α
 | [],_,_,d=>d
 |(s,o)::r,i,k,d=> @Bool.rec (fun _=>α) (eC r i k d) (k o) (Nat.beq s i)
def mM{α:Sort _}:List (Nat×ai)->Nat->ai->(List (Nat×ai)->α)->α
 | [],_,_,k=>k []
 |(s,o)::r,i,o',k=> @Bool.rec (fun _=>α) (mM r i o' fun r'=>k ((s,o)::r')) (k ((s,o')::r)) (Nat.beq s i)
@[reducible] def cY (b:Bool) (p:Prop):Prop:= @Bool.rec (fun _=>Prop) False p b
def aY.fe{α:Sort _}(e:Env)(x:aY)(k:SV->α):α:=match x with
 | .tmp t=>Env.u5 e t k
 | .const v=>k v
def Ao{α:Sort _}(e:Env):List aY->(List SV->α)->α
 | [],k=>k []
 |x::r,k=>x.fe e fun v=>Ao e r fun vs=>k (v::vs)
def SV.gE(v:SV)(k:List SV->Prop):Prop:=
 match v with
 | .undef=>False
 | .agg l=>k l
 |v=>k [v]
def fm{α:Type _}:List α->Nat->Option α
 | [],_=>none
 |x::r,i=>match i with|0=>some x|i+1=>fm r i
def rE{α:Type _}:List α->Nat->α->(List α->Prop)->Prop
 | [],_,_,_=>False
 |x::r,i,v,k=>match i with|0=>k (v::r)|i+1=>rE r i v fun r'=>k (x::r')
def kN:List SV->Nat->List SV->(List SV->Prop)->Prop
 |l,_,[],k=>k l
 |l,i,v::vs,k=>rE l i v fun l'=>kN l' (i+1) vs k
def takeN:List SV->Nat->(List SV->Prop)->Prop
 |_,0,k=>k []
 | [],_+1,_=>False
 |x::r,n+1,k=>takeN r n fun r'=>k (x::r')
def pF:List SV->Nat->(List SV->Prop)->Prop
 |l,0,k=>k l
 | [],_+1,_=>False
 |_::r,n+1,k=>pF r n k
def BJ:Nat->SV->(List SV->Prop)->Prop
 |0,_,k=>k []
 |n+1,v,k=>BJ n v fun l=>k (v::l)
def nB(h:Heap)(p:SV)(k:List SV->Nat->Prop):Prop:=
 match p with
 | .kK v sub=>v.gE fun cs=>k cs sub
 | .dj g=>match vS g with
   |some v=>v.gE fun cs=>k cs 0
   |none=>False
 | .ref i g idx sub=>match h with
   |⟨_,hl⟩=>eC hl i (fun o=>match o with
    | .vec g' _ elems _=>cY (Nat.beq g' g) (match fm elems idx with
     |some v=>v.gE fun cs=>k cs sub
     |none=>False)
    |_=>False) False
 |_=>False
def gF(h:Heap)(i g:Nat)(k:Prop):Prop:=match h with
 |⟨_,hl⟩=>eC hl i (fun o=>match o with
  | .vec g' _ _ _=>cY (Nat.beq g' g) k
  |_=>False) False
def vV(h:Heap)(i g:Nat)(k:Prop):Prop:=match h with
 |⟨_,hl⟩=>eC hl i (fun o=>match o with
  | .vec g' _ _ _=>cY (Nat.beq g' g) k
  | .kf g' _ _=>cY (Nat.beq g' g) k
  |_=>False) False
def JM(h:Heap)(i g idx sub j sz:Nat)(k:SV->Prop):Prop:=match h with
 |⟨_,hl⟩=>eC hl i (fun o=>match o with
  | .vec g' sz' _ _=>cY (Nat.beq g' g) (@Bool.rec (fun _=>Prop) (k (.ref i g idx (sub+j*sz))) (k (.ref i g (idx+j) sub)) (Nat.beq sz' sz))
  |_=>False) False
def pG(w v:SV)(sub:Nat)(k:SV->Prop):Prop:=
 match w with
 | .agg cs=>v.gE fun vs=>kN cs sub vs fun cs'=>k (.agg cs')
 |_=>match v with
  | .agg _=>False
  |v=>match sub with|0=>k v|_+1=>False
def SV.known:SV->Bool
 | .undef=>false
 |_=>true
def SV.one:SV->Bool
 | .undef| .agg _| .bn _=>false
 |_=>true
def cZ:List SV->Bool
 | []=>true
 |v::r=>v.one&&cZ r
def rF(n:Nat)(h:Heap)(p v:SV)(k:Heap->Prop):Prop:=
 v.gE fun vs=>cY (Nat.beq vs.length n&&cZ vs) (match p,h with
 | .ref i g idx sub,⟨m,hl⟩=>eC hl i (fun o=>match o with
  | .vec g' sz elems sk=>cY (Nat.beq g' g) (match fm elems idx with
    |some w=>pG w v sub fun w'=>rE elems idx w' fun elems'=>mM hl i (.vec g' sz elems' sk) fun l'=>k ⟨m,l'⟩
    |none=>False)
  |_=>False) False
 |_,_=>False)
def O7(k k':IntKind):Bool:=match k,k' with
 | .i8,.i8| .i16,.i16| .i32,.i32| .i64,.i64| .u8,.u8| .u16,.u16| .u32,.u32| .u64,.u64=>true
 |_,_=>false
def vW(e:FZ)(x y:SV):Option Bool:=match e,x,y with
 | .int,.int k a,.int k' b=>(match O7 k k' with|true=>some (a==b)|false=>none)
 | .str,.str a,.str b=>some (a==b)
 | .bool,.bool a,.bool b=>some (a==b)
 |_,_,_=>none
def cK:List FZ->List SV->List SV->Option Bool
 | [],_,_=>some true
 |e::es,x::xs,y::ys=>
  match vW e x y with
  |some p=>(match es with
   | []=>some p
   |es=>(cK es xs ys).map fun q=>p&&q)
  |none=>none
 |_,_,_=>none
def kV(op:BinOp)(k:IntKind)(x y:Int):Int:=
 let a:=BitVec.ofInt k.bits x
 let b:=BitVec.ofInt k.bits y
 match op with
 | .and=>k.wrap (a &&& b).toNat
 | .or=>k.wrap (a ||| b).toNat
 | .xor=>k.wrap (a ^^^ b).toNat
 |_=>k.wrap (a &&& ~~~b).toNat
def arith(op:BinOp)(k k':IntKind)(a b:Int)(K:SV->Prop):Prop:=
 match op with
 | .shl=>cY (decide (0<=b)) (K (.int k (k.wrap (a*2^(min b.toNat k.bits)))))
 | .shr=>cY (decide (0<=b)) (K (.int k (a.fdiv (2^(min b.toNat k.bits)))))
 |op=>cY (O7 k k') (match op with
  | .add=>K (.int k (k.wrap (a+b)))
  | .sub=>K (.int k (k.wrap (a-b)))
  | .mul=>K (.int k (k.wrap (a*b)))
  | .quo=>cY (!decide (b=0)) (K (.int k (k.wrap (a.tdiv b))))
  | .rem=>cY (!decide (b=0)) (K (.int k (a.tmod b)))
  | .eql=>K (.bool (a==b))
  | .neq=>K (.bool (a !=b))
  | .lss=>K (.bool (decide (a<b)))
  | .leq=>K (.bool (decide (a<=b)))
  | .gtr=>K (.bool (decide (b<a)))
  | .geq=>K (.bool (decide (b<=a)))
  | .and=>K (.int k (kV .and k a b))
  | .or=>K (.int k (kV .or k a b))
  | .xor=>K (.int k (kV .xor k a b))
  | .andNot=>K (.int k (kV .andNot k a b))
  |_=>False)
def mo(a b:List UInt8):Bool:=Go.Op.bytesLess a b
def yX(op:BinOp)(a b:List UInt8)(K:SV->Prop):Prop:=
 match op with
 | .add=>cY (decide (a.length+b.length<=9223372036854775807)) (K (.str (a++b)))
 | .eql=>K (.bool (a==b))
 | .neq=>K (.bool (!(a==b)))
 | .lss=>K (.bool (mo a b))
 | .leq=>K (.bool (mo a b||a==b))
 | .gtr=>K (.bool (!(mo a b||a==b)))
 | .geq=>K (.bool (!mo a b))
 |_=>False
def fY(e:Env):List (Nat×Nat×aY)->List SV->(List SV->Prop)->Prop
 | [],cs,k=>k cs
 |(off,sz,x)::r,cs,k=>x.fe e fun v=>v.gE fun vs=>cY (Nat.beq vs.length sz&&Nat.ble (off+sz) cs.length) (kN cs off vs fun cs'=>fY e r cs' k)
def fu(sz:Nat)(e:Env):List (Nat×aY)->List SV->(List SV->Prop)->Prop
 | [],cs,k=>k cs
 |(i,x)::r,cs,k=>x.fe e fun v=>v.gE fun vs=>cY (Nat.beq vs.length sz) (rE cs i v fun cs'=>fu sz e r cs' k)
def iw(e:Env)(d:Int)(x:Option aY)(k:Int->Prop):Prop:=match x with
 |none=>k d
 |some y=>y.fe e fun v=>match v with| .int _ n=>k n|_=>False
structure aC(P:Program)(f:FuncId)(args:List SV)(h:Heap)(k:bu->Heap->Prop):Prop where
 calls: ∀(c:Cx) (w:World) (xs:Array Value),bT c h w->xs.size=args.length->(∀ (i:Nat) (v:SV) (x:Value),args[i]? =some v->xs[i]? =some x->VR c h w v x)->
  Calls P f xs w fun e w'=> ∃c' h' r,k r h'/\bT c' h' w'/\Ext c h w c' h' w'/\match r with
   | .ret v=> ∃x,e= .returned x/\VR c' h' w' v x
   | .eY v=> ∃x,e= .panicked [{v:=x,recovered:=false}]/\VR c' h' w' v x
structure bR where
 call:FuncId->List SV->Heap->(bu->Heap->Prop)->Prop
 same:SV->SV->Prop->Prop
 fin:Bool->Prop->Prop->Prop
@[reducible] def bz (P:Program):bR:=⟨aC P,fun v v' p=>v=v'/\p,fun _ q p=>q/\p⟩
structure bR.Ok(P:Program)(Γ:bR):Prop where
 call: ∀f a h k,Γ.call f a h k->aC P f a h k
 same: ∀v v' p,Γ.same v v' p->Lk v' v/\p
 fin: ∀b q p,Γ.fin b q p->(b=true\/q)/\p
theorem r9{P:Program}:(bz P).Ok P:=⟨fun _ _ _ _ h=>h,fun _ _ _ h=>⟨h.1▸ .refl _,h.2⟩,fun _ _ _ h=>⟨.inr h.1,h.2⟩⟩
def eS(P:Program)(f:FuncId):Bool:=match P.funcs[f]? with
 |some fn=>fn.body.isSome&&fn.name != "runtime.NumGoroutine"
 |none=>false
def vX(get:Nat->SV):Nat->Nat->(List SV->Prop)->Prop
 |0,_,k=>k []
 |m+1,j,k=>vX get m (j+1) fun r=>k (get j::r)
def HC:List UInt8->(List SV->Prop)->Prop
 | [],k=>k []
 |b::r,k=>HC r fun l=>k (.int .u8 b.toNat::l)
def JN:List SV->List SV->(List SV->Prop)->Prop
 | [],m,k=>k m
 |v::r,m,k=>JN r m fun r'=>k (v::r')
def mN(h:Heap)(sz:Nat)(x:SV)(k:List SV->Prop):Prop:=match x with
 | .af=>k []
 | .str s=>cY (Nat.beq sz 1) (HC s k)
 | .aW sz' n get=>cY (Nat.beq sz' sz) (vX get n 0 k)
 | .sl i g sz' off len _=>cY (Nat.beq sz' sz) (match h with
   |⟨_,hl⟩=>eC hl i (fun o=>match o with
    | .vec g' _ elems _=>cY (Nat.beq g' g) (pF elems off fun l=>takeN l len k)
    |_=>False) False)
 |_=>False
def allOnes:List SV->Bool
 | []=>true
 |v::r=>cZ v.cells&&allOnes r
def joinTy:Option TypeId->TypeId->Option TypeId
 |some t,u=>bif Nat.beq t u then some u else none
 |none,_=>none
def aS(ty:TypeId)(sz bytes:Nat)(h:Heap)(s x:SV)(k:SV->Heap->Prop):Prop:=
 mN h sz x fun xs=>match xs with
 | []=>(match s with
   | .af=>k .af h
   | .sl i g sz' off len cap=>gF h i g (k (.sl i g sz' off len cap) h)
   | .aW sz' n get=>k (.aW sz' n get) h
   |_=>False)
 |x0::xr=>cY (allOnes (x0::xr)) (match s with
  | .af=>cY (decide ((x0::xr).length<=9223372036854775807)&&decide ((x0::xr).length*bytes<=140737488355328)) (match h with
    |⟨m,l⟩=>k (.sl m 0 sz 0 (x0::xr).length none) ⟨m+1,(m,.vec 0 sz (x0::xr) ⟨true,some ty⟩)::l⟩)
  | .sl i g sz' off len cap=>cY (Nat.beq sz' sz) (match h with
    |⟨m,hl⟩=>eC hl i (fun o=>match o with
     | .vec g' iK elems sk=>cY (Nat.beq g' g) (match cap with
       |some cp=> @Bool.rec (fun _=>Prop)
        (cY (decide (len+(x0::xr).length<=9223372036854775807)&&decide ((len+(x0::xr).length)*bytes<=140737488355328))
         (pF elems off fun l1=>takeN l1 len fun l2=>JN l2 (x0::xr) fun l3=>k (.sl m 0 sz 0 (len+(x0::xr).length) none) ⟨m+1,(m,.vec 0 sz l3 ⟨true,some ty⟩)::hl⟩))
        (kN elems (off+len) (x0::xr) fun elems'=>mM hl i (.vec g' iK elems' sk) fun l'=>k (.sl i g' sz off (len+(x0::xr).length) (some cp)) ⟨m,l'⟩)
        (Nat.ble (len+(x0::xr).length) cp)
       |none=> @Bool.rec (fun _=>Prop) (cY (Nat.beq off 0&&Nat.beq len elems.length&&(decide (len+(x0::xr).length<=9223372036854775807)&&decide ((len+(x0::xr).length)*bytes<=140737488355328)))
        (JN elems (x0::xr) fun l3=>mM hl i (.vec (g'+1) iK l3 ⟨true,joinTy sk.ty ty⟩) fun l'=>k (.sl i (g'+1) sz 0 (len+(x0::xr).length) none) ⟨m,l'⟩))
        (kN elems (off+len) (x0::xr) fun elems'=>mM hl i (.vec g' iK elems' sk) fun l'=>k (.sl i g' sz off (len+(x0::xr).length) none) ⟨m,l'⟩)
        (Nat.blt 0 sz&&Nat.ble (off+len+(x0::xr).length) elems.length))
     |_=>False) False)
  |_=>False)
def oo:List SV->(List UInt8->Prop)->Prop
 | [],k=>k []
 |v::r,k=>match v with
  | .int .u8 n=>oo r fun l=>k (UInt8.ofNat n.toNat::l)
  |_=>False
def O8(id:Nat)(s:List UInt8)(b:Int):Int:=match id with
 |0=>(Lib.countByte s b.toNat.toUInt8:Nat)
 |_=>Lib.indexByte s b.toNat.toUInt8
def Ap(s:String):Option Nat:=bif s== "internal/bytealg.CountString" then some 0 else bif s== "internal/bytealg.IndexByteString" then some 1 else none
def JO(h:Heap)(x y:SV)(k:Bool->Prop):Prop:=match x,y with
 | .eM,.eM=>k true
 | .eM,.ref i g _ _=>gF h i g (k false)
 | .ref i g _ _,.eM=>gF h i g (k false)
 | .ref i g a b,.ref i' g' a' b'=>cY (Nat.beq i i'&&Nat.beq g g'&&(Nat.beq a a'&&Nat.beq b b')) (gF h i g (k true))
 |_,_=>False
def mO:List Nat->Nat->Bool
 | [],_=>false
 |x::r,n=>bif Nat.beq x n then true else mO r n
def oR:List (SV×SV×Nat)->List Nat->List (SV×SV×Nat)
 | [],_=>[]
 |x::r,s=>bif mO s x.2.2 then oR r s else x::oR r s
def Qj:List (SV×SV×Nat)->(SV->SV->Nat->Prop)->Prop
 | [],_=>True
 |x::r,p=>p x.1 x.2.1 x.2.2/\Qj r p
def JP:List Nat->Option Nat
 | []=>none
 |x::r=>match r with
  | []=>some x
  |y::r'=>JP (y::r')
def F1:List (SV×SV×Nat)->Nat->Option (SV×SV)
 | [],_=>none
 |x::r,n=>bif Nat.beq x.2.2 n then some (x.1,x.2.1)else F1 r n
def qI(isStr:Bool)(k:SV):Bool:=match isStr,k with
 |true,.str _=>true
 |false,.int _ _=>true
 |_,_=>false
def yY(a b:SV):Option Bool:=match a,b with
 | .str s,.str t=>some (s==t)
 | .int k n,.int k' m=>(match O7 k k' with|true=>some (n==m)|false=>none)
 |_,_=>none
def nD(k:SV):List (SV×SV×Nat)->Nat->(Option (Nat×SV)->Prop)->Prop
 | [],_,K=>K none
 |(a,v,_)::r,i,K=>match yY k a with
  |some b=> @Bool.rec (fun _=>Prop) (nD k r (i+1) K) (K (some (i,v))) b
  |none=>False
def HD:List (SV×SV×Nat)->Nat->SV->SV->List (SV×SV×Nat)
 | [],_,_,_=>[]
 |(a,w,s)::r,i,k,v=>match i with
  |0=>(k,v,s)::r
  |i+1=>(a,w,s)::HD r i k v
def HE(o:Option TypeId)(t:TypeId):Bool:=match o with
 |some u=>Nat.beq u t
 |none=>false
def bF(P:Program)(Γ:bR)(o:qj)(e:Env)(h:Heap)(k:SV->Heap->Prop)(kp:SV->Heap->Prop):Prop:=
 match o with
 | .aK x=>x.fe e fun v=>k v h
 | .pick c a b=>c.fe e fun c=>match c with
   | .bool x=>a.fe e fun va=>b.fe e fun vb=> @Bool.rec (fun _=>Prop) (k vb h) (k va h) x
   |_=>False
 | .box ty sz x=>x.fe e fun v=>v.gE fun vs=>cY (Nat.beq vs.length sz) (match h with
   |⟨n,l⟩=>k (.ref n 0 0 0) ⟨n+1,(n,.vec 0 sz [v] ⟨false,some ty⟩)::l⟩)
 | .rz ty sz x=>x.fe e fun v=>match v,h with
   | .agg cs,⟨n,l⟩=>cY (cZ cs&&Nat.beq cs.length sz) (k (.ref n 0 0 0) ⟨n+1,(n,.vec 0 1 cs ⟨false,some ty⟩)::l⟩)
   |_,_=>False
 | .build zero parts=>fY e parts zero fun cs=>k (.agg cs) h
 | .buildSlice ty sz zero n parts=>BJ n zero fun z=>fu sz e parts z fun cs=>match h with
   |⟨m,l⟩=>k (.sl m 0 sz 0 n (some n)) ⟨m+1,(m,.vec 0 sz cs ⟨false,some ty⟩)::l⟩
 | .aP x=>x.fe e fun x=>nB h x fun cs sub=>match fm cs sub with|some v=>k v h|none=>False
 | .cO n x=>x.fe e fun x=>nB h x fun cs sub=>pF cs sub fun cs=>takeN cs n fun l=>k (.agg l) h
 | .store n x v=>x.fe e fun x=>v.fe e fun v=>rF n h x v fun h'=>k (.bn []) h'
 | .bin op x y=>x.fe e fun x=>y.fe e fun y=>match x,y with
   | .int kk a,.int k' b=>arith op kk k' a b fun v=>k v h
   | .str a,.str b=>yX op a b fun v=>k v h
   |_,_=>False
 | .F0 neg x y=>x.fe e fun x=>y.fe e fun y=>match x,y with
   | .bool a,.bool b=> @Bool.rec (fun _=>Prop) (k (.bool (a==b)) h) (k (.bool (!(a==b))) h) neg
   |_,_=>False
 | .r7 neg ks x y=>x.fe e fun x=>y.fe e fun y=>match x,y with
   | .agg a,.agg b=>match cK ks a b with
     |some p=> @Bool.rec (fun _=>Prop) (k (.bool p) h) (k (.bool (!p)) h) neg
     |none=>False
   |_,_=>False
 | .un op x=>x.fe e fun x=>match op,x with
   | .not,.bool b=>k (.bool (!b)) h
   | .neg,.int kk n=>k (.int kk (kk.wrap (0-n))) h
   | .xor,.int kk n=>k (.int kk (kV .xor kk (if kk.signed then -1 else kk.max) n)) h
   |_,_=>False
 | .conv kk x=>x.fe e fun x=>match x with
   | .int _ n=>k (.int kk (kk.wrap n)) h
   |_=>False
 | .rA x=>x.fe e fun x=>match x with
   | .str s=>k (.str s) h
   |_=>False
 | .toStr x=>x.fe e fun x=>match x with
   | .str _=>False
   |x=>mN h 1 x fun xs=>oo xs fun bs=>k (.str bs) h
 | .qk ty x=>x.fe e fun x=>match x with
   | .str s=>HC s fun xs=>match h with
     |⟨m,l⟩=>k (.sl m 0 1 0 s.length none) ⟨m+1,(m,.vec 0 1 xs ⟨true,some ty⟩)::l⟩
   |_=>False
 | .cX fn a b=>Ao e a fun a=>Ao e b fun b=>k (.func fn a b) h
 | .eL t x=>x.fe e fun v=>k (.iface t v) h
 | .slice sz x lo hi=>x.fe e fun x=>match x with
   | .aW sz' n get=>cY (Nat.beq sz' sz) (iw e 0 lo fun l=>iw e n hi fun hh=>
     cY (decide (0<=l)&&decide (l<=hh)&&decide (hh<=n)) (k (.aW sz' (hh.toNat-l.toNat) fun i=>get (l.toNat+i)) h))
   | .sl i g sz' off len cap=>cY (Nat.beq sz' sz) (gF h i g (iw e 0 lo fun l=>iw e len hi fun hh=>
     cY (decide (0<=l)&&decide (l<=hh)) (match cap with
      |some c=>cY (decide (hh<=c)) (k (.sl i g sz' (off+l.toNat) (hh.toNat-l.toNat) (some (c-l.toNat))) h)
      |none=>cY (decide (hh<=len)) (k (.sl i g sz' (off+l.toNat) (hh.toNat-l.toNat) none) h))))
   | .af=>iw e 0 lo fun l=>iw e 0 hi fun hh=>cY (decide (l=0)&&decide (hh=0)) (k .af h)
   |_=>False
 | .bN x lo hi=>x.fe e fun x=>match x with
   | .str s=>iw e 0 lo fun l=>iw e s.length hi fun hh=>
     cY (decide (0<=l)&&decide (l<=hh)&&decide (hh<=s.length)) (k (.str ((s.drop l.toNat).take (hh.toNat-l.toNat))) h)
   |_=>False
 | .lE n x lo hi=>x.fe e fun x=>match x,h with
   | .ref i g idx sub,⟨m,hl⟩=>eC hl i (fun o=>match o with
     | .vec g' sz elems _=>cY (Nat.beq g' g&&(Nat.beq sub 0&&(Nat.beq sz 1&&Nat.ble (idx+n) elems.length))) (iw e 0 lo fun l=>iw e n hi fun hh=>
      cY (decide (0<=l)&&decide (l<=hh)&&decide (hh<=n)) (k (.sl i g 1 (idx+l.toNat) (hh.toNat-l.toNat) (some (n-l.toNat))) ⟨m,hl⟩))
     |_=>False) False
   |_,_=>False
 | .fieldAddr off x=>x.fe e fun x=>match x with
   | .ref i g idx sub=>gF h i g (k (.ref i g idx (sub+off)) h)
   | .kK v sub=>k (.kK v (sub+off)) h
   |_=>False
 | .om off x=>x.fe e fun x=>match x with
   | .agg cs=>match fm cs off with|some v=>k v h|none=>False
   |_=>False
 | .rB off n x=>x.fe e fun x=>match x with
   | .agg cs=>pF cs off fun cs=>takeN cs n fun l=>k (.agg l) h
   |_=>False
 | .indexAddr sz x i=>x.fe e fun x=>i.fe e fun i=>match x,i with
   | .aW sz' n get,.int _ j=>cY (Nat.beq sz' sz) (cY (decide (0<=j)&&decide (j<n)) (k (.kK (get j.toNat) 0) h))
   | .sl i g sz' off len _,.int _ j=>cY (Nat.beq sz' sz) (gF h i g (cY (decide (0<=j)&&decide (j<len)) (k (.ref i g (off+j.toNat) 0) h)))
   |_,_=>False
 | .dZ n sz x i=>x.fe e fun x=>i.fe e fun i=>match x,i with
   | .ref i g idx sub,.int _ j=>cY (decide (0<=j)&&decide (j<n)) (JM h i g idx sub j.toNat sz fun v=>k v h)
   | .dj g,.int _ j=>cY (decide (0<=j)&&decide (j<n)) (match vS g with
     |some v=>k (.kK v (0+j.toNat*sz)) h
     |none=>False)
   | .kK v sub,.int _ j=>cY (decide (0<=j)&&decide (j<n)) (k (.kK v (sub+j.toNat*sz)) h)
   |_,_=>False
 | .index x i=>x.fe e fun x=>i.fe e fun i=>match x,i with
   | .str s,.int _ j=>cY (decide (0<=j)&&decide (j<s.length)) (k (.int .u8 (s.getD j.toNat 0).toNat) h)
   |_,_=>False
 | .extract x i=>x.fe e fun x=>match x with
   | .bn l=>match fm l i with|some v=>k v h|none=>False
   |_=>False
 | .len isStr x=>x.fe e fun x=>match isStr,x with
   |true,.str s=>k (.int .i64 s.length) h
   |false,.aW _ n _=>k (.int .i64 n) h
   |false,.sl i g _ _ n _=>vV h i g (k (.int .i64 n) h)
   |false,.af=>k (.int .i64 0) h
   |_,_=>False
 | .mm isMax x y=>x.fe e fun x=>y.fe e fun y=>match x,y with
   | .int kk a,.int _ b=> @Bool.rec (fun _=>Prop) (k (.int kk (if b<a then b else a)) h) (k (.int kk (if a<b then b else a)) h) isMax
   |_,_=>False
 | .makeSlice ty sz bytes zero l c=>l.fe e fun l=>c.fe e fun c=>match l,c with
   | .int _ n,.int _ c=>cY (decide (0<=n)&&decide (n<=c)&&decide (bytes*c<=140737488355328)&&decide (c<=9223372036854775807)) (match h with
     |⟨m,hl⟩=>k (.sl m 0 sz 0 n.toNat (some c.toNat)) ⟨m+1,(m,.vec 0 sz (List.replicate c.toNat zero) ⟨false,some ty⟩)::hl⟩)
   |_,_=>False
 | .append ty sz bytes s x=>s.fe e fun s=>x.fe e fun x=>aS ty sz bytes h s x k
 | .call f args=>Ao e args fun a=>Γ.call f a h fun r h'=>match r with
   | .ret v=>k v h'
   | .eY v=>kp v h'
 | .iD f args=>f.fe e fun f=>match f with
   | .func (.func f) first cap=>cY (eS P f) (Ao e args fun a=>Γ.call f (first++(a++cap)) h fun r h'=>match r with
     | .ret v=>k v h'
     | .eY v=>kp v h')
   |_=>False
 | .aI x=>x.fe e fun x=>match x with
   | .ref i g idx sub=>gF h i g (k (.ref i g idx sub) h)
   | .kK v sub=>k (.kK v sub) h
   | .dj g=>k (.dj g) h
   |_=>False
 | .uy x=>x.fe e fun x=>match x,h with
   | .eM,h=>k .eM h
   | .ref i g idx sub,⟨m,hl⟩=>eC hl i (fun o=>match o with
     | .vec g' sz elems _=>cY (Nat.beq g' g&&(Nat.blt idx elems.length&&Nat.blt sub sz)) (k (.ref i g' idx sub) ⟨m,hl⟩)
     |_=>False) False
   |_,_=>False
 | .mj u ZN x=>x.fe e fun x=>match x,h with
   | .eM,h=>k .eM h
   | .ref i g idx sub,⟨m,hl⟩=>eC hl i (fun o=>match o with
     | .vec g' sz elems sk=>cY (Nat.beq g' g&&(Nat.beq idx 0&&Nat.beq sub 0)&&(Nat.beq sz ZN&&Nat.beq elems.length 1)&&(!sk.fS&&HE sk.ty u)) (k (.ref i g' 0 0) ⟨m,hl⟩)
     |_=>False) False
   |_,_=>False
 | .uz x=>x.fe e fun v=>k v h
 | .An id x y=>x.fe e fun x=>y.fe e fun y=>match x,y with
   | .str s,.int .u8 b=>k (.int .i64 (O8 id s b)) h
   |_,_=>False
 | .nA ty x=>x.fe e fun x=>match x,h with
   | .int .i64 n,⟨m,l⟩=>cY (decide (0<=n)&&decide (n<=140737488355328)) (k (.sl m 0 1 0 n.toNat none) ⟨m+1,(m,.vec 0 1 [] ⟨true,some ty⟩)::l⟩)
   |_,_=>False
 | .MO neg x y=>x.fe e fun x=>y.fe e fun y=>JO h x y fun b=> @Bool.rec (fun _=>Prop) (k (.bool b) h) (k (.bool (!b)) h) neg
 | .iM x=>x.fe e fun x=>match x with
   | .af=>k .eM h
   | .sl i g _ off len _=>cY (Nat.blt 0 len) (vV h i g (k (.ref i g off 0) h))
   |_=>False
 | .tC et x n=>x.fe e fun x=>n.fe e fun n=>match x,n,h with
   | .eM,.int .i64 n,h=>cY (decide (n=0)) (k (.str []) h)
   | .ref i g idx sub,.int .i64 n,⟨m,hl⟩=>eC hl i (fun o=>match o with
     | .vec g' sz elems sk=>cY (Nat.beq g' g&&(Nat.beq idx 0&&Nat.beq sub 0)&&(Nat.beq sz 1&&HE sk.ty et)&&(decide (0<n)&&decide (n<=9223372036854775807)))
      (takeN elems n.toNat fun xs=>oo xs fun bs=>mM hl i (.kf g' et xs) fun hl'=>k (.str bs) ⟨m,hl'⟩)
     | .kf g' ty elems=>cY (Nat.beq g' g&&(Nat.beq idx 0&&Nat.beq sub 0)&&Nat.beq ty et&&(decide (0<n)&&decide (n<=9223372036854775807)))
      (takeN elems n.toNat fun xs=>oo xs fun bs=>mM hl i (.kf g' et elems) fun hl'=>k (.str bs) ⟨m,hl'⟩)
     |_=>False) False
   |_,_,_=>False
 | .r8 x=>x.fe e fun x=>match x with
   | .af=>k (.int .i64 0) h
   | .sl i g _ _ _ (some c)=>gF h i g (k (.int .i64 c) h)
   |_=>False
 | .panic x=>x.fe e fun x=>match x with
   | .iface t v=>kp (.iface t v) h
   |_=>False
 | .rC x=>x.fe e fun x=>match x,h with
   | .str s,⟨n,l⟩=>k (.ref n 0 0 0) ⟨n+1,(n,.iter s 0)::l⟩
   |_,_=>False
 | .vU x=>x.fe e fun x=>match x,h with
   | .ref i g idx sub,⟨m,hl⟩=>cY (Nat.beq g 0&&(Nat.beq idx 0&&Nat.beq sub 0)) (eC hl i (fun o=>match o with
     | .iter s pos=> @Bool.rec (fun _=>Prop) (k (.bn [.bool false]) ⟨m,hl⟩)
      (match Utf8.decode ⟨s.toArray⟩ pos with
       |(c,wd)=>mM hl i (.iter s (pos+wd)) fun l'=>k (.bn [.bool true,.int .i64 pos,.int .i32 c]) ⟨m,l'⟩) (Nat.blt pos s.length)
     |_=>False) False)
   |_,_=>False
 | .tD x=>x.fe e fun x=>match x,h with
   | .gb,⟨n,l⟩=>k (.ref n 0 0 0) ⟨n+1,(n,.cy .gb 0 [] 0)::l⟩
   | .cW i g,⟨n,hl⟩=>eC hl i (fun o=>match o with
     | .map _ cl=>cY (Nat.beq g 0) (k (.ref n 0 0 0) ⟨n+1,(n,.cy (.cW i g) cl [] cl)::hl⟩)
     |_=>False) False
   |_,_=>False
 | .yV x=>x.fe e fun x=>match x,h with
   | .ref j g _ sub,⟨n,hl⟩=>cY (Nat.beq g 0&&Nat.beq sub 0) (eC hl j (fun o=>match o with
     | .cy m since seen stepped=>(match m with
       | .cW i g'=>cY (Nat.beq g' 0) (eC hl i (fun o=>match o with
         | .map es cl=>cY (Nat.ble since stepped&&es.all fun x=>Nat.blt x.2.2 since&&(eB 4 x.1&&eB 4 x.2.1))
           (match oR es seen with
            | []=>k (.bn [.bool false]) ⟨n,hl⟩
            |x::r=>Qj (x::r) fun kk v born=>mM hl j (.cy (.cW i g') since (seen++[born]) cl) fun l'=>k (.bn [.bool true,kk,v]) ⟨n,l'⟩)
         |_=>False) False)
       |_=>False)
     |_=>False) False)
   |_,_=>False
 | .entry x=>x.fe e fun x=>match x,h with
   | .ref j g _ sub,⟨n,hl⟩=>cY (Nat.beq g 0&&Nat.beq sub 0) (eC hl j (fun o=>match o with
     | .cy m _ seen stepped=>(match m with
       | .cW i g'=>cY (Nat.beq g' 0) (eC hl i (fun o=>match o with
         | .map es cl=>cY (Nat.beq cl stepped&&es.all fun x=>eB 4 x.1&&eB 4 x.2.1)
           (match JP seen with
            |some s=>(match F1 es s with
             |some (kk,v)=>k (.bn [kk,v]) ⟨n,hl⟩
             |none=>False)
            |none=>False)
         |_=>False) False)
       |_=>False)
     |_=>False) False)
   |_,_=>False
 | .mkMap=>match h with
   |⟨n,l⟩=>k (.cW n 0) ⟨n+1,(n,.map [] 0)::l⟩
 | .dw isStr m kk v=>m.fe e fun m=>kk.fe e fun kk=>v.fe e fun v=>match m,h with
   | .cW i g,⟨n,hl⟩=>eC hl i (fun o=>match o with
     | .map es cl=>cY (Nat.beq g 0&&(qI isStr kk&&eB 4 v)) (nD kk es 0 fun r=>match r with
       |some (j,_)=>mM hl i (.map (HD es j kk v) cl) fun l'=>k (.bn []) ⟨n,l'⟩
       |none=>mM hl i (.map (es++[(kk,v,cl)]) (cl+1)) fun l'=>k (.bn []) ⟨n,l'⟩)
     |_=>False) False
   |_,_=>False
 | .kM isStr zero ok m kk=>m.fe e fun m=>kk.fe e fun kk=>match m,h with
   | .gb,h=>cY (qI isStr kk) (@Bool.rec (fun _=>Prop) (k zero h) (k (.bn [zero,.bool false]) h) ok)
   | .cW i g,⟨n,hl⟩=>eC hl i (fun o=>match o with
     | .map es _=>cY (Nat.beq g 0&&qI isStr kk) (nD kk es 0 fun r=>match r with
       |some (_,v)=> @Bool.rec (fun _=>Prop) (k v ⟨n,hl⟩) (k (.bn [v,.bool true]) ⟨n,hl⟩) ok
       |none=> @Bool.rec (fun _=>Prop) (k zero ⟨n,hl⟩) (k (.bn [zero,.bool false]) ⟨n,hl⟩) ok)
     |_=>False) False
   |_,_=>False
 | .Ef x=>x.fe e fun x=>match x,h with
   | .gb,h=>k (.int .i64 0) h
   | .cW i g,⟨n,hl⟩=>eC hl i (fun o=>match o with
     | .map es _=>cY (Nat.beq g 0) (k (.int .i64 es.length) ⟨n,hl⟩)
     |_=>False) False
   |_,_=>False
 | .BF t zero ok x=>x.fe e fun x=>match x with
   | .iface u v=> @Bool.rec (fun _=>Prop) (@Bool.rec (fun _=>Prop) False (k (.bn [zero,.bool false]) h) ok) (@Bool.rec (fun _=>Prop) (k v h) (k (.bn [v,.bool true]) h) ok) (Nat.beq u t)
   | .dF=> @Bool.rec (fun _=>Prop) False (k (.bn [zero,.bool false]) h) ok
   |_=>False
 | .MP neg x y=>x.fe e fun x=>y.fe e fun y=>match x,y with
   | .dF,.dF=> @Bool.rec (fun _=>Prop) (k (.bool true) h) (k (.bool false) h) neg
   | .dF,.iface _ _=> @Bool.rec (fun _=>Prop) (k (.bool false) h) (k (.bool true) h) neg
   | .iface _ _,.dF=> @Bool.rec (fun _=>Prop) (k (.bool false) h) (k (.bool true) h) neg
   |_,_=>False
 | .JL neg x y=>x.fe e fun x=>y.fe e fun y=>match x,y with
   | .af,.af=> @Bool.rec (fun _=>Prop) (k (.bool true) h) (k (.bool false) h) neg
   | .af,.sl i g _ _ _ _=>gF h i g (@Bool.rec (fun _=>Prop) (k (.bool false) h) (k (.bool true) h) neg)
   | .sl i g _ _ _ _,.af=>gF h i g (@Bool.rec (fun _=>Prop) (k (.bool false) h) (k (.bool true) h) neg)
   | .af,.aW _ n _=>cY (Nat.blt 0 n) (@Bool.rec (fun _=>Prop) (k (.bool false) h) (k (.bool true) h) neg)
   | .aW _ n _,.af=>cY (Nat.blt 0 n) (@Bool.rec (fun _=>Prop) (k (.bool false) h) (k (.bool true) h) neg)
   |_,_=>False
 | .slice3 sz x lo hi mx=>x.fe e fun x=>match x with
   | .aW sz' n get=>cY (Nat.beq sz' sz) (iw e 0 lo fun l=>iw e n hi fun hh=>iw e 0 (some mx) fun mm=>
     cY (decide (0<=l)&&decide (l<=hh)&&(decide (hh<=mm)&&decide (mm<=n))) (k (.aW sz' (hh.toNat-l.toNat) fun i=>get (l.toNat+i)) h))
   | .sl i g sz' off len cap=>cY (Nat.beq sz' sz) (gF h i g (iw e 0 lo fun l=>iw e len hi fun hh=>iw e 0 (some mx) fun mm=>
     cY (decide (0<=l)&&decide (l<=hh)&&(decide (hh<=mm)&&decide (mm<=match cap with|some c=>c|none=>len)))
      (k (.sl i g sz' (off+l.toNat) (hh.toNat-l.toNat) (some (mm.toNat-l.toNat))) h)))
   | .af=>iw e 0 lo fun l=>iw e 0 hi fun hh=>iw e 0 (some mx) fun mm=>cY (decide (l=0)&&(decide (hh=0)&&decide (mm=0))) (k .af h)
   |_=>False
 | .yW x y=>x.fe e fun x=>y.fe e fun y=>match x,y with
   | .af,.af=>k (.int .i64 0) h
   | .sl i g _ _ _ _,.af=>gF h i g (k (.int .i64 0) h)
   |_,_=>False
 | .Ts sz zero x=>x.fe e fun x=>match x with
   | .af=>k (.bn []) h
   | .sl i g sz' off len _=>cY (Nat.beq sz' sz) (match h with
     |⟨m,hl⟩=>eC hl i (fun o=>match o with
      | .vec g' iK elems sk=>cY (Nat.beq g' g) (BJ len zero fun zs=>cY (allOnes zs) (kN elems off zs fun elems'=>mM hl i (.vec g' iK elems' sk) fun l'=>k (.bn []) ⟨m,l'⟩))
      |_=>False) False)
   |_=>False
 | .JA _ _=>False
 | .O6=>False
 | .bad=>False
def nE(e:Env)(d:Option Nat)(v:SV)(k:Env->Prop):Prop:=match d with
 |some t=>Env.BH e t v k
 |none=>k e
def fK(e:Env)(g:Option (Nat×Bool))(run:Env->Prop)(skip:Env->Prop):Prop:=match g with
 |none=>run e
 |some (t,want)=>Env.u5 e t fun g=>match g with
  | .bool x=> @Bool.rec (fun _=>Prop)
   (Env.BH e t (.bool false) fun e=> @Bool.rec (fun _=>Prop) (run e) (skip e) want)
   (Env.BH e t (.bool true) fun e=> @Bool.rec (fun _=>Prop) (skip e) (run e) want) x
  | .bn _=>skip e
  |_=>False
def Qk(P:Program)(Γ:bR)(l:List aA):Env->Heap->(Env->Heap->Prop)->(SV->Env->Heap->Prop)->Prop:=
 @List.rec aA (fun _=>Env->Heap->(Env->Heap->Prop)->(SV->Env->Heap->Prop)->Prop) (fun e h k _=>k e h)
  (fun o _ ih e h k kp=>fK e o.guard
   (fun e=>bF P Γ o.op e h (fun v h'=>nE e o.dst v fun e'=>ih e' h' k kp) (fun v h'=>kp v e h'))
   (fun e=>nE e o.dst (.bn []) fun e'=>ih e' h k kp)) l
def uA(eq:SV->SV->Bool):List SV->List SV->Bool
 | [],[]=>true
 |a::r,b::s=>eq a b&&uA eq r s
 |_,_=>false
def qJ:Nat->SV->SV->Bool
 |0,_,_=>false
 |n+1,a,b=>match a,b with
  | .bool a,.bool b=>a==b
  | .int k a,.int k' b=>O7 k k'&&decide (a=b)
  | .str s,.str t=>decide (s=t)
  | .eM,.eM=>true
  | .ref i g x y,.ref i' g' x' y'=>Nat.beq i i'&&(Nat.beq g g'&&(Nat.beq x x'&&Nat.beq y y'))
  | .dj g,.dj g'=>Nat.beq g g'
  | .af,.af=>true
  | .sl i g a b c none,.sl i' g' a' b' c' none=>Nat.beq i i'&&(Nat.beq g g'&&(Nat.beq a a'&&(Nat.beq b b'&&Nat.beq c c')))
  | .sl i g a b c (some d),.sl i' g' a' b' c' (some d')=>Nat.beq i i'&&(Nat.beq g g'&&(Nat.beq a a'&&(Nat.beq b b'&&(Nat.beq c c'&&Nat.beq d d'))))
  | .jo,.jo=>true
  | .dF,.dF=>true
  | .gb,.gb=>true
  | .cW i g,.cW i' g'=>Nat.beq i i'&&Nat.beq g g'
  | .iface t v,.iface t' v'=>Nat.beq t t'&&qJ n v v'
  | .agg l,.agg l'=>uA (qJ n) l l'
  | .bn l,.bn l'=>uA (qJ n) l l'
  |_,_=>false
def JQ(p:Nat->Bool):Nat->Bool
 |0=>true
 |n+1=>p n&&JQ p n
def mq(p:SV->SV->Bool):List SV->List SV->Bool
 | [],[]=>true
 |a::r,b::s=>p a b&&mq p r s
 |_,_=>false
def F2:Nat->SV->SV->Bool
 |0,_,_=>false
 |n+1,a,b=>match a,b with
  | .aW sz m g,.aW sz' m' g'=>Nat.beq sz sz'&&(Nat.beq m m'&&JQ (fun j=>F2 n (g j) (g' j)) m)
  | .agg l,.agg l'=>mq (F2 n) l l'
  | .bn l,.bn l'=>mq (F2 n) l l'
  | .iface t v,.iface t' v'=>Nat.beq t t'&&F2 n v v'
  | .undef,.undef=>true
  | .kK v s,.kK v' s'=>Nat.beq s s'&&F2 n v v'
  | .func (.func f) x y,.func (.func f') x' y'=>Nat.beq f f'&&(uA (qJ n) x x'&&uA (qJ n) y y')
  |a,b=>qJ (n+1) a b
def M7(e':Env):Env->Bool
 | []=>true
 |(t,v)::r=>F2 8 v (Env.get e' t)&&M7 e' r
def F3:List Nat->List Nat->Bool
 | [],[]=>true
 |a::r,b::s=>Nat.beq a b&&F3 r s
 |_,_=>false
def M8:List (SV×SV×Nat)->List (SV×SV×Nat)->Bool
 | [],[]=>true
 |a::r,b::s=>qJ 8 a.1 b.1&&(qJ 8 a.2.1 b.2.1&&(Nat.beq a.2.2 b.2.2&&M8 r s))
 |_,_=>false
def JR:ai->ai->Bool
 | .vec g sz es sk,.vec g' sz' es' Ww=>Nat.beq g g'&&(Nat.beq sz sz'&&(mq (F2 8) es es'&&(sk.fS==Ww.fS&&(match sk.ty,Ww.ty with
   |none,none=>true
   |some t,some t'=>Nat.beq t t'
   |_,_=>false))))
 | .iter s p,.iter s' p'=>decide (s=s')&&Nat.beq p p'
 | .map es c,.map es' c'=>Nat.beq c c'&&M8 es es'
 | .cy m a b c,.cy m' a' b' c'=>qJ 8 m m'&&(Nat.beq a a'&&(F3 b b'&&Nat.beq c c'))
 | .kf g t xs,.kf g' t' xs'=>Nat.beq g g'&&(Nat.beq t t'&&uA (qJ 8) xs xs')
 |_,_=>false
def Wx:List (Nat×ai)->List (Nat×ai)->Bool
 | [],[]=>true
 |(i,o)::r,(j,p)::s=>Nat.beq i j&&(JR o p&&Wx r s)
 |_,_=>false
def vu(o:aA):Bool:=match o.op with
 | .buildSlice _ _ _ _ _=>(match o.guard with
   |none=>(match o.dst with|some _=>true|none=>false)
   |some _=>false)
 |_=>false
def pH(P:Program)(Γ:bR)(ops:List aA)(l:List Nat):Env->Heap->Prop->Prop:=
 @List.rec Nat (fun _=>Env->Heap->Prop->Prop) (fun _ _ p=>p)
  (fun j _ ih e h p=>match fm ops j with
   |none=>False
   |some o=> @Bool.rec (fun _=>Prop) (ih e h p) (bF P Γ o.op e h (fun _ _=>ih e h p) (fun _ _=>False)) (vu o)) l
theorem BK(P:Program)(Γ:bR)(ops:List aA)(j:Nat)(r:List Nat)(e:Env)(h:Heap)(p:Prop):pH P Γ ops (j::r) e h p=match fm ops j with
 |none=>False
 |some o=> @Bool.rec (fun _=>Prop) (pH P Γ ops r e h p) (bF P Γ o.op e h (fun _ _=>pH P Γ ops r e h p) (fun _ _=>False)) (vu o):=rfl
def ot(P:Program)(Γ:bR)(ops:List aA)(l:List Nat):Env->Heap->Prop->Prop:=
 @List.rec Nat (fun _=>Env->Heap->Prop->Prop) (fun _ _ p=>p)
  (fun j _ ih e h p=>match fm ops j with
   |none=>False
   |some o=> @Bool.rec (fun _=>Prop) (fK e o.guard
    (fun e=>bF P Γ o.op e h (fun v _=>match o.dst with|some t=>Env.u5 e t fun v'=>Γ.same v v' (ih e h p)|none=>ih e h p) (fun _ _=>False))
    (fun e=>ih e h p)) (ih e h p) (vu o)) l
theorem BL(P:Program)(Γ:bR)(ops:List aA)(j:Nat)(r:List Nat)(e:Env)(h:Heap)(p:Prop):ot P Γ ops (j::r) e h p=match fm ops j with
 |none=>False
 |some o=> @Bool.rec (fun _=>Prop) (fK e o.guard
  (fun e=>bF P Γ o.op e h (fun v _=>match o.dst with|some t=>Env.u5 e t fun v'=>Γ.same v v' (ot P Γ ops r e h p)|none=>ot P Γ ops r e h p) (fun _ _=>False))
  (fun e=>ot P Γ ops r e h p)) (ot P Γ ops r e h p) (vu o):=rfl
def ec(P:Program)(Γ:bR)(o:aA)(e:Env)(h:Heap)(K:Env->Heap->Prop):Prop:=
 fK e o.guard (fun e=>bF P Γ o.op e h (fun v h'=>nE e o.dst v fun e'=>K e' h') (fun _ _=>False)) (fun e=>nE e o.dst (.bn []) fun e'=>K e' h)
def HF(P:Program)(Γ:bR)(ops:List aA):List Nat->Env->Heap->(Env->Heap->Prop)->Prop
 | [],e,h,K=>K e h
 |i::r,e,h,K=>match fm ops i with
  |none=>False
  |some o=>ec P Γ o e h fun e' h'=>HF P Γ ops r e' h' K
def oX:List Nat->Nat->List Nat
 | [],_=>[]
 |j::r,i=>bif Nat.beq j i then oX r i else j::oX r i
def bU:List Nat->List Nat->Bool
 | [],_=>true
 |k::r,rem=>(bif mO rem k then false else true)&&bU r rem
def uB:List Nat->(Nat->Prop->Prop)->Prop->Prop
 | [],_,p=>p
 |i::r,f,p=>f i (uB r f p)
def iy(P:Program)(Γ:bR)(ops:List aA)(l9:Env->Heap->Prop->Prop):Nat->List Nat->Env->Heap->Prop->Prop
 |0,rem,e,h,p=>match rem with
  | []=>l9 e h p
  |_::_=>False
 |n+1,rem,e,h,p=>match rem with
  | []=>l9 e h p
  |x::r=>uB (x::r) (fun i q=>match fm ops i with
   |none=>False
   |some o=> @Bool.rec (fun _=>Prop) q (ec P Γ o e h fun e' h'=>iy P Γ ops l9 n (oX (x::r) i) e' h' q) (bU o.pre (x::r))) p
theorem gY(P:Program)(Γ:bR)(ops:List aA)(l9:Env->Heap->Prop->Prop)(n x:Nat)(r:List Nat)(e:Env)(h:Heap)(p:Prop):iy P Γ ops l9 (n+1) (x::r) e h p=uB (x::r) (fun i q=>match fm ops i with
 |none=>False
 |some o=> @Bool.rec (fun _=>Prop) q (ec P Γ o e h fun e' h'=>iy P Γ ops l9 n (oX (x::r) i) e' h' q) (bU o.pre (x::r))) p:=rfl
def vY(e':Env):Env->Prop
 | []=>True
 |(t,v)::r=>Env.get e' t=v/\vY e' r
def O9(e1:Env)(h1:Heap)(e2:Env)(h2:Heap):Bool:=M7 e2 e1&&(Nat.beq h2.cI h1.cI&&Wx h1.l h2.l)
def vZ(P:Program)(Γ:bR)(ops:List aA)(T:List Nat)(e:Env)(h:Heap)(k:Env->Heap->Prop):Prop:=
 HF P Γ ops T e h fun e1 h1=>iy P Γ ops (fun e' h' p=>Γ.fin (O9 e1 h1 e' h') (vY e' e1/\h1=h') p) T.length T e h (k e1 h1)
def lF(P:Program)(Γ:bR)(ops:List aA)(l:List (Nat×Bool×List Nat)):Env->Heap->(Env->Heap->Prop)->(SV->Env->Heap->Prop)->Prop:=
 @List.rec (Nat×Bool×List Nat) (fun _=>Env->Heap->(Env->Heap->Prop)->(SV->Env->Heap->Prop)->Prop) (fun e h k _=>k e h)
  (fun x r ih e h k kp=>match x with
   |(i,_,again)=> @Bool.rec (fun _=>Prop) (match fm ops i with
    |none=>False
    |some o=>pH P Γ ops again e h (fK e o.guard
     (fun e=>bF P Γ o.op e h (fun v h'=>nE e o.dst v fun e'=>ot P Γ ops again e' h' (ih e' h' k kp)) (fun v h'=>kp v (Env.keep (BG ops) e) h'))
     (fun e=>nE e o.dst (.bn []) fun e'=>ih e' h k kp))) (vZ P Γ ops (i::r.map fun y=>y.1) e h k) (mO again i)) l
theorem Eg(P:Program)(Γ:bR)(ops:List aA)(i:Nat)(b:Bool)(again:List Nat)(r:List (Nat×Bool×List Nat))(e:Env)(h:Heap)(k:Env->Heap->Prop)(kp:SV->Env->Heap->Prop)(hm:mO again i=true):
  lF P Γ ops ((i,b,again)::r) e h k kp=vZ P Γ ops (i::r.map fun y=>y.1) e h k:=by
 show@Bool.rec (fun _=>Prop) _ (vZ P Γ ops (i::r.map fun y=>y.1) e h k) (mO again i)=_;rw[hm]
theorem jq(P:Program)(Γ:bR)(ops:List aA)(i:Nat)(b:Bool)(again:List Nat)(r:List (Nat×Bool×List Nat))(e:Env)(h:Heap)(k:Env->Heap->Prop)(kp:SV->Env->Heap->Prop)(hm:mO again i=false):
  lF P Γ ops ((i,b,again)::r) e h k kp=match fm ops i with
   |none=>False
   |some o=>pH P Γ ops again e h (fK e o.guard
    (fun e=>bF P Γ o.op e h (fun v h'=>nE e o.dst v fun e'=>ot P Γ ops again e' h' (lF P Γ ops r e' h' k kp)) (fun v h'=>kp v (Env.keep (BG ops) e) h'))
    (fun e=>nE e o.dst (.bn []) fun e'=>lF P Γ ops r e' h k kp)):=by
 show@Bool.rec (fun _=>Prop) (match fm ops i with
      |none=>False
      |some o=>pH P Γ ops again e h (fK e o.guard
       (fun e=>bF P Γ o.op e h (fun v h'=>nE e o.dst v fun e'=>ot P Γ ops again e' h' (lF P Γ ops r e' h' k kp)) (fun v h'=>kp v (Env.keep (BG ops) e) h'))
       (fun e=>nE e o.dst (.bn []) fun e'=>lF P Γ ops r e' h k kp))) _ (mO again i)=_
 rw[hm]
def bw:Nat->Value->SV
 |0,_=> .undef
 |n+1,v=>match v with
  | .bool b=> .bool b
  | .int k m=> .int k m
  | .string s=> .str s.data.toList
  | .pointer none=> .eM
  | .slice none 0 0=> .af
  | .nilFunc=> .jo
  | .nilIface=> .dF
  | .map none=> .gb
  | .iface t v=> .iface t (bw n v)
  | .agg cs=> .agg (cs.toList.map (bw n))
  | .tuple cs=> .bn (cs.toList.map (bw n))
  |_=> .undef
def aD:Operand->aY
 | .tmp t=> .tmp t
 | .const v=> .const (bw 4 v)
 | .global g=> .const (.dj g)
 | .func f=> .const (.func (.func f) [] [])
def kO(P:Program)(t:TypeId):Option Bool:=match P.underlying t with
 |some (.struct _)|some (.array _ _)=>some true
 |some _=>some false
 |none=>none
def kY(P:Program):Nat->List Field->Option (List FZ)
 |_,[]=>some []
 |n,f::r=>bif f.name != "_" &&Nat.beq f.offset n then(match P.underlying f.type with
  |some (.int _)=>(kY P (n+1) r).map (.int:: ·)
  |some .string=>(kY P (n+1) r).map (.str:: ·)
  |some .bool=>(kY P (n+1) r).map (.bool:: ·)
  |_=>none)else none
def gG(P:Program):Nat->List Field->Option (List FZ)
 |_,[]=>some []
 |n,f::r=>bif f.name != "_" &&Nat.beq f.offset n then(match P.underlying f.type with
  |some (.int _)=>(gG P (n+1) r).map (.int:: ·)
  |some .string=>(gG P (n+1) r).map (.str:: ·)
  |some .bool=>(gG P (n+1) r).map (.bool:: ·)
  |some (.struct gs)=>bif P.stoodInHeld f.type then none else(match kY P 0 gs.toList,P.info? f.type with
   |some ks,some i=>bif Nat.beq i.size ks.length then(gG P (n+ks.length) r).map (ks++ ·)else none
   |_,_=>none)
  |_=>none)else none
def rG:Option TypeDesc->Bool
 |some (.slice _)|some .string=>true
 |_=>false
def isConst:Operand->Bool
 | .const _=>true
 |_=>false
def HG(P:Program)(t:TypeId):Option Bool:=match P.underlying t with
 |some .string=>some true
 |some (.int _)=>some false
 |_=>none
def HH(P:Program)(t:TypeId):Bool:=match P.underlying t with
 |some (.array _ e)=>(match P.info? e with|some i=>Nat.beq i.size 1|none=>false)
 |_=>false
def mb(P:Program)(o:Op):qj:=match o with
 | .move x| .assign x=> .aK (aD x)
 | .pick c a b=> .pick (aD c) (aD a) (aD b)
 | .alloc t=>match P.info? t with
   |some i=>match i.zero with|some z=>bif HH P t then .rz t i.size (.const (bw 4 z))else .box t i.size (.const (bw 4 z))|none=> .bad
   |none=> .bad
 | .box t x=>match P.info? t with|some i=>bif HH P t then .rz t i.size (aD x)else .box t i.size (aD x)|none=> .bad
 | .build t ps=>match P.underlying t,P.info? t with
   |some (.struct fs),some i=>match i.zero with
    |some z=>bif !((bw 4 z).known&&fs.toList.all fun f=>(P.info? f.type).isSome)then .bad else match ps.toList.mapM fun(j,x)=>(fs[j]?).bind fun f=>(P.info? f.type).map fun g=>(f.offset,g.size,aD x)with
     |some l=> .build (bw 4 z).cells l
     |none=> .bad
    |none=> .bad
   |_,_=> .bad
 | .buildSlice t n ps=>match P.underlying t with
   |some (.slice e)=>match P.info? e with
    |some i=>match i.zero with
     |some z=>bif Nat.ble (n*i.size) 16777216&&(Nat.beq (bw 4 z).cells.length i.size&&(bw 4 z).known)then .buildSlice e i.size (bw 4 z) n (ps.toList.map fun(j,x)=>(j,aD x))else .bad
     |none=> .bad
    |none=> .bad
   |_=> .bad
 | .load t x=>match kO P t,P.info? t with
   |some true,some i=> .cO i.size (aD x)
   |some false,_=> .aP (aD x)
   |_,_=> .bad
 | .store t x v=>match P.info? t with|some i=> .store i.size (aD x) (aD v)|none=> .bad
 | .binOp op t x y _=>match P.underlying t with
   |some (.int _)|some .string=> .bin op (aD x) (aD y)
   |some .bool=>match op with
    | .eql=> .F0 false (aD x) (aD y)
    | .neq=> .F0 true (aD x) (aD y)
    |_=> .bad
   |some (.pointer e)=>(match P.info? e,op with
    |some i,.eql=>bif Nat.beq i.size 0 then .bad else .MO false (aD x) (aD y)
    |some i,.neq=>bif Nat.beq i.size 0 then .bad else .MO true (aD x) (aD y)
    |_,_=> .bad)
   |some (.slice _)=>(match op with
    | .eql=> .JL false (aD x) (aD y)
    | .neq=> .JL true (aD x) (aD y)
    |_=> .bad)
   |some (.interface _)=>bif isConst x||isConst y then(match op with
    | .eql=> .MP false (aD x) (aD y)
    | .neq=> .MP true (aD x) (aD y)
    |_=> .bad)else .bad
   |some (.struct fs)=>bif !P.stoodInHeld t&& !P.eqGuardType P.depth t then(match gG P 0 fs.toList,op with
    |some ks,.eql=> .r7 false ks (aD x) (aD y)
    |some ks,.neq=> .r7 true ks (aD x) (aD y)
    |_,_=> .bad)else .bad
   |_=> .bad
 | .unOp u _ x=> .un u (aD x)
 | .convert s d x=>match P.underlying s,P.underlying d with
   |some (.int _),some (.int k)=> .conv k (aD x)
   |some .string,some .string=> .rA (aD x)
   |some (.slice e),some .string=>(match P.underlying e,P.info? e with
    |some (.int .u8),some i=>bif Nat.beq i.size 1 then .toStr (aD x)else .bad
    |_,_=> .bad)
   |some (.pointer u),some .unsafePointer=>(match P.info? u with
    |some i=>bif Nat.beq i.size 0 then .bad else .uy (aD x)
    |none=> .bad)
   |some .unsafePointer,some (.pointer u)=>(match P.info? u with
    |some i=>bif !Nat.beq i.size 0&&(Nat.beq (P.cellsOf u) i.size&&liesAt P P.depth u 1 0 u 1)then .mj u i.size (aD x)else .bad
    |none=> .bad)
   |some .string,some (.slice e)=>(match P.underlying e,P.info? e with
    |some (.int .u8),some i=>bif Nat.beq i.size 1 then .qk e (aD x)else .bad
    |_,_=> .bad)
   |_,_=> .bad
 | .makeFunc fn a b=> .cX fn (a.toList.map aD) (b.toList.map aD)
 | .makeInterface t x=>match P.underlying t with
   |some (.interface _)=> .bad
   |some _=> .eL t (aD x)
   |none=> .bad
 | .slice t x lo hi none=>match P.underlying t with
   |some (.slice e)=>match P.info? e with|some i=> .slice i.size (aD x) (lo.map aD) (hi.map aD)|none=> .bad
   |some .string=> .bN (aD x) (lo.map aD) (hi.map aD)
   |some (.array n e)=>(match P.info? e with|some i=>bif Nat.beq i.size 1 then .lE n (aD x) (lo.map aD) (hi.map aD)else .bad|none=> .bad)
   |_=> .bad
 | .slice t x lo (some hi) (some m)=>match P.underlying t with
   |some (.slice e)=>match P.info? e with|some i=> .slice3 i.size (aD x) (lo.map aD) (some (aD hi)) (aD m)|none=> .bad
   |_=> .bad
 | .range t x=>match P.underlying t with
   |some .string=> .rC (aD x)
   |some (.map _ _)=> .tD (aD x)
   |_=> .bad
 | .next x true=> .vU (aD x)
 | .next x false=> .yV (aD x)
 | .entry x=> .entry (aD x)
 | .makeMap _ none=> .mkMap
 | .mapUpdate t m k v| .insert t m k v=>match P.underlying t with
   |some (.map kt _)=>(match HG P kt with|some b=> .dw b (aD m) (aD k) (aD v)|none=> .bad)
   |_=> .bad
 | .lookup t m k ok=>match P.underlying t with
   |some (.map kt e)=>(match P.info? e with
    |some i=>match i.zero with
     |some z=>(match HG P kt with|some b=>bif eB 4 (bw 4 z)then .kM b (bw 4 z) ok (aD m) (aD k)else .bad|none=> .bad)
     |none=> .bad
    |none=> .bad)
   |_=> .bad
 | .typeAssert x _ t ok=>match P.underlying t,P.info? t with
   |some (.interface _),_=> .bad
   |some _,some i=>(match i.zero with
    |some z=>bif eB 4 (bw 4 z)then .BF t (bw 4 z) ok (aD x)else .bad
    |none=> .bad)
   |_,_=> .bad
 | .defer c=>match c.callee with
   | .value f=> .JA (aD f) (c.args.toList.map aD)
   |_=> .bad
 | .fieldAddr t x f=>match P.underlying t with
   |some (.struct fs)=>match fs[f]? with
    |some fd=>match P.info? fd.type with
     |some i=>bif Nat.beq i.size 0 then .bad else .fieldAddr fd.offset (aD x)
     |none=> .bad
    |none=> .bad
   |_=> .bad
 | .field t x f=>match P.underlying t with
   |some (.struct fs)=>match fs[f]? with
    |some fd=>match kO P fd.type,P.info? fd.type with
     |some true,some i=> .rB fd.offset i.size (aD x)
     |some false,_=> .om fd.offset (aD x)
     |_,_=> .bad
    |none=> .bad
   |_=> .bad
 | .indexAddr t x i=>match P.underlying t with
   |some (.slice e)=>match P.info? e with|some ti=> .indexAddr ti.size (aD x) (aD i)|none=> .bad
   |some (.array n e)=>match P.info? e with|some ti=> .dZ n ti.size (aD x) (aD i)|none=> .bad
   |_=> .bad
 | .index t x i=>match P.underlying t with
   |some .string=> .index (aD x) (aD i)
   |_=> .bad
 | .extract x i=> .extract (aD x) i
 | .makeSlice t l c=>match P.underlying t with
   |some (.slice e)=>match P.info? e with
    |some i=>match i.zero with
     |some z=>bif Nat.beq (bw 4 z).cells.length i.size&&(bw 4 z).known then .makeSlice e i.size i.bytes (bw 4 z) (aD l) (aD c)else .bad
     |none=> .bad
    |none=> .bad
   |_=> .bad
 | .call c=>match c.callee with
   | .value (.func f)=>bif eS P f then .call f (c.args.toList.map aD)else(match P.funcs[f]?,c.args.toList with
     |some fn,[x]=>bif fn.body.isNone&&(fn.name== "internal/abi.NoEscape" &&fn.origin== "")then .uz (aD x)
      else bif fn.body.isNone&&(fn.name== "internal/bytealg.MakeNoZero" &&fn.origin== "")then(match fn.resultTypes.toList with
       | [t]=>match P.underlying t with
         |some (.slice el)=> .nA el (aD x)
         |_=> .bad
       |_=> .bad)else .bad
     |some fn,[x,y]=>bif fn.body.isNone&&fn.origin== "" then(match Ap fn.name with|some i=> .An i (aD x) (aD y)|none=> .bad)else .bad
     |_,_=> .bad)
   | .value v=> .iD (aD v) (c.args.toList.map aD)
   | .builtin .len=>match c.args.toList,c.argTypes.toList with
     | [x],[t]=>match P.underlying t with
       |some .string=> .len true (aD x)
       |some (.slice _)=> .len false (aD x)
       |some (.map _ _)=> .Ef (aD x)
       |_=> .bad
     |_,_=> .bad
   | .builtin .cap=>match c.args.toList,c.argTypes.toList with
     | [x],[t]=>match P.underlying t with
       |some (.slice _)=> .r8 (aD x)
       |_=> .bad
     |_,_=> .bad
   | .builtin .copy=>match c.args.toList,c.argTypes.toList with
     | [x,y],[t,u]=>match P.underlying t with
       |some (.slice e)=>match P.info? e with
        |some _=> .yW (aD x) (aD y)
        |none=> .bad
       |_=> .bad
     |_,_=> .bad
   | .builtin .clear=>match c.args.toList,c.argTypes.toList with
     | [x],[t]=>match P.underlying t with
       |some (.slice e)=>match P.info? e with
        |some i=>match i.zero with
         |some z=>bif Nat.beq (bw 4 z).cells.length i.size&&(bw 4 z).known then .Ts i.size (bw 4 z) (aD x)else .bad
         |none=> .bad
        |none=> .bad
       |_=> .bad
     |_,_=> .bad
   | .builtin .recover=> .O6
   | .builtin .unsafeSliceData=>match c.args.toList with|[x]=> .iM (aD x)|_=> .bad
   | .builtin .unsafeString=>match c.args.toList,c.argTypes.toList with
     | [x,n],[t,_]=>match P.underlying t with
       |some (.pointer e)=>bif Nat.beq (P.cellsOf e) 1 then .tC e (aD x) (aD n)else .bad
       |_=> .bad
     |_,_=> .bad
   | .builtin .min=>match c.args.toList with|[x,y]=> .mm false (aD x) (aD y)|_=> .bad
   | .builtin .max=>match c.args.toList with|[x,y]=> .mm true (aD x) (aD y)|_=> .bad
   | .builtin .panic=>match c.args.toList with|[x]=> .panic (aD x)|_=> .bad
   | .builtin .append=>match c.args.toList,c.argTypes.toList with
     | [s,x],[t,u]=>match P.underlying t with
       |some (.slice e)=>bif rG (P.underlying u)then(match P.info? e with
        |some i=>match i.zero with
         |some z=>bif Nat.beq (bw 4 z).cells.length i.size&&(bw 4 z).known then .append e i.size i.bytes (aD s) (aD x)else .bad
         |none=> .bad
        |none=> .bad)else .bad
       |_=> .bad
     |_,_=> .bad
   |_=> .bad
 | .nilCheck x=> .aI (aD x)
 | .panic x=> .panic (aD x)
 |_=> .bad
def ki(e:Edge):Bool:=match e.ground with
 | .textOnly _=>false
 | .gcOnly _=>false
 |_=>true
def pI(n:Nat)(o:Oper):Bool:=match o.dst with
 |some d=>Nat.blt d n
 |none=>true
def bD(P:Program)(n:Nat)(ops:Array Oper)(pre:Bool)(o:Oper):aA:=
 let pr:=bif pre then o.after.toList.filterMap fun e=>bif ki e then some e.on else none else[]
 bif pI n o then(match o.guard with
 |none=>⟨o.dst,mb P o.op,none,pr⟩
 |some (j,want)=>match(ops[j]?).bind (·.dst)with
  |some t=>bif Nat.blt t n then⟨o.dst,mb P o.op,some (t,want),pr⟩else⟨none,.bad,none,[]⟩
  |none=>⟨none,.bad,none,[]⟩)else⟨none,.bad,none,[]⟩
def cB(P:Program)(n:Nat):Code->bK
 | .skip=> .skip
 | .region _ ops d=>bif d then .aQ (ops.toList.map (bD P n ops true)) [] []else .region (ops.toList.map (bD P n ops false)) []
 | .seq a b=> .seq (cB P n a) (cB P n b)
 | .cond c a b=> .cond (aD c) (cB P n a) (cB P n b)
 | .block id b=> .block id (cB P n b)
 | .loop b=> .loop (cB P n b)
 | .exit id=> .exit id
 | .ret=> .ret
 |_=> .bad
end
end Ab
