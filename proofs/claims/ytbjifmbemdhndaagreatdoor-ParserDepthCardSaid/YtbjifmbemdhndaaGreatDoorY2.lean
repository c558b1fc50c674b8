/- Parts of the proof of PParserDepth, one behind the other, with short names. -/
import Derived.Test.YtbjifmbemdhndaaGreatDoorY1
import Derived.Lib.Bytealg
set_option linter.unusedVariables false
set_option linter.unusedSimpArgs false
namespace Ab
open Go
noncomputable section
inductive aR where
 |tmp (t:Nat)
 |const (v:SV)
inductive Dv where
 |int|str|bool
inductive n6 where
 |aS (x:aR)
 |pick (c a b:aR)
 |box (ty:TypeId) (sz:Nat) (x:aR)
 |tE (ty:TypeId) (sz:Nat) (x:aR)
 |build (zero:List SV) (parts:List (Nat×Nat×aR))
 |buildSlice (ty:TypeId) (sz:Nat) (zero:SV) (n:Nat) (parts:List (Nat×aR))
 |aU (x:aR)
 |bJ (n:Nat) (x:aR)
 |store (n:Nat) (x v:aR)
 |bin (op:BinOp) (x y:aR)
 |s8 (neg:Bool) (ks:List Dv) (x y:aR)
 |Ez (neg:Bool) (x y:aR)
 |un (op:UnOp) (x:aR)
 |conv (k:IntKind) (x:aR)
 |o4 (x:aR)
 |toStr (x:aR)
 |n7 (ty:TypeId) (x:aR)
 |dB (fn:Fn) (first captured:List aR)
 |dJ (t:TypeId) (x:aR)
 |slice (sz:Nat) (x:aR) (lo hi:Option aR)
 |bn (x:aR) (lo hi:Option aR)
 |gH (n:Nat) (x:aR) (lo hi:Option aR)
 |fieldAddr (off:Nat) (x:aR)
 |o5 (off:Nat) (x:aR)
 |o6 (off n:Nat) (x:aR)
 |indexAddr (sz:Nat) (x i:aR)
 |dD (n sz:Nat) (x i:aR)
 |index (x i:aR)
 |extract (x:aR) (i:Nat)
 |len (isStr:Bool) (x:aR)
 |mm (isMax:Bool) (x y:aR)
 |makeSlice (ty:TypeId) (sz bytes:Nat) (zero:SV) (l c:aR)
 |append (ty:TypeId) (sz bytes:Nat) (s x:aR)
 |call (f:FuncId) (args:List aR)
 |jt (f:aR) (args:List aR)
 |aI (x:aR)
 |rZ (x:aR)
 |kC (u:TypeId) (sz:Nat) (x:aR)
 |sg (x:aR)
 |xq (id:Nat) (x y:aR)
 |lG (ty:TypeId) (x:aR)
 |Ie (neg:Bool) (x y:aR)
 |gx (x:aR)
 |ri (e:TypeId) (x n:aR)
 |qi (x:aR)
 |panic (x:aR)
 |rj (x:aR)
 |vK (x:aR)
 |o7 (x:aR)
 |tF (x:aR)
 |mkMap
 |bM (isStr:Bool) (m k v:aR)
 |gW (isStr:Bool) (zero:SV) (ok:Bool) (m k:aR)
 |Bj (x:aR)
 |yN (t:TypeId) (zero:SV) (ok:Bool) (x:aR)
 |FX (neg:Bool) (x y:aR)
 |J0 (neg:Bool) (x y:aR)
 |entry (x:aR)
 |slice3 (sz:Nat) (x:aR) (lo hi:Option aR) (mx:aR)
 |vL (x y:aR)
 |OV (sz:Nat) (zero:SV) (x:aR)
 |EA (f:aR) (args:List aR)
 |J1
 |bad
structure aF where
 dst:Option Nat
 op:n6
 guard:Option (Nat×Bool):=none
 pre:List Nat:=[]
inductive bD where
 |skip
 |region (ops:List aF) (forget:List Nat)
 |aQ (ops:List aF) (ord:List (Nat×Bool×List Nat)) (forget:List Nat)
 |seq (a b:bD)
 |cond (c:aR) (a b:bD)
 |block (id:Nat) (b:bD)
 |loop (b:bD)
 |exit (id:Nat)
 |ret
 |bad
inductive ck where
 |normal|exit (id:Nat)|ret|panic (v:SV)
inductive bV where
 |ret (v:SV)|cZ (v:SV)
abbrev Env:=List (Nat×SV)
def Env.get:Env->Nat->SV
 | [],_=> .undef
 |(s,v)::r,t=>bif Nat.beq s t then v else Env.get r t
def Env.put:Env->Nat->SV->Env
 | [],t,v=>[(t,v)]
 |(s,w)::r,t,v=>bif Nat.beq s t then(t,v)::r else(s,w)::Env.put r t v
def Env.drop:Env->Nat->Env
 | [],_=>[]
 |(s,w)::r,t=>bif Nat.beq s t then Env.drop r t else(s,w)::Env.drop r t
def Env.sO{α:Sort _}:Env->Nat->(SV->α)->α
 | [],_,k=>k .undef
 |(s,v)::r,t,k=> @Bool.rec (fun _=>α) (Env.sO r t k) (k v) (Nat.beq s t)
def Env.yO{α:Sort _}:Env->Nat->SV->(Env->α)->α
 | [],t,v,k=>k [(t,v)]
 |(s,w)::r,t,v,k=> @Bool.rec (fun _=>α) (Env.yO r t v fun r'=>k ((s,w)::r')) (k ((t,v)::r)) (Nat.beq s t)
def Env.yP{α:Sort _}:Env->Nat->(Env->α)->α
 | [],_,k=>k []
 |(s,w)::r,t,k=> @Bool.rec (fun _=>α) (Env.yP r t fun r'=>k ((s,w)::r')) (Env.yP r t k) (Nat.beq s t)
def Env.o8{α:Sort _}:List Nat->Env->(Env->α)->α
 | [],e,k=>k e
 |t::ts,e,k=>Env.yP e t fun e'=>Env.o8 ts e' k
def dW{α:Sort _}:List (Nat×aA)->Nat->(aA->α)->α->α
 | [],_,_,d=>d
 |(s,o)::r,i,k,d=> @Bool.rec (fun _=>α) (dW r i k d) (k o) (Nat.beq s i)
def kS{α:Sort _}:List (Nat×aA)->Nat->aA->(List (Nat×aA)->α)->α
 | [],_,_,k=>k []
 |(s,o)::r,i,o',k=> @Bool.rec (fun _=>α) (kS r i o' fun r'=>k ((s,o)::r')) (k ((s,o')::r)) (Nat.beq s i)
@[reducible] def cQ (b:Bool) (p:Prop):Prop:= @Bool.rec (fun _=>Prop) False p b
def aR.eJ{α:Sort _}(e:Env)(x:aR)(k:SV->α):α:=match x with
 | .tmp t=>Env.sO e t k
 | .const v=>k v
def xu{α:Sort _}(e:Env):List aR->(List SV->α)->α
 | [],k=>k []
 |x::r,k=>x.eJ e fun v=>xu e r fun vs=>k (v::vs)
def SV.fE(v:SV)(k:List SV->Prop):Prop:=
 match v with
 | .undef=>False
 | .agg l=>k l
 |v=>k [v]
def iZ{α:Type _}:List α->Nat->Option α
 | [],_=>none
 |x::r,i=>match i with|0=>some x|i+1=>iZ r i
def sP{α:Type _}:List α->Nat->α->(List α->Prop)->Prop
 | [],_,_,_=>False
 |x::r,i,v,k=>match i with|0=>k (v::r)|i+1=>sP r i v fun r'=>k (x::r')
def mg:List SV->Nat->List SV->(List SV->Prop)->Prop
 |l,_,[],k=>k l
 |l,i,v::vs,k=>sP l i v fun l'=>mg l' (i+1) vs k
def takeN:List SV->Nat->(List SV->Prop)->Prop
 |_,0,k=>k []
 | [],_+1,_=>False
 |x::r,n+1,k=>takeN r n fun r'=>k (x::r')
def nA:List SV->Nat->(List SV->Prop)->Prop
 |l,0,k=>k l
 | [],_+1,_=>False
 |_::r,n+1,k=>nA r n k
def yQ:Nat->SV->(List SV->Prop)->Prop
 |0,_,k=>k []
 |n+1,v,k=>yQ n v fun l=>k (v::l)
def lH(h:Heap)(p:SV)(k:List SV->Nat->Prop):Prop:=
 match p with
 | .lB v sub=>v.fE fun cs=>k cs sub
 | .cV g=>match qZ g with
   |some v=>v.fE fun cs=>k cs 0
   |none=>False
 | .ref i g idx sub=>match h with
   |⟨_,hl⟩=>dW hl i (fun o=>match o with
    | .vec g' _ elems _=>cQ (Nat.beq g' g) (match iZ elems idx with
     |some v=>v.fE fun cs=>k cs sub
     |none=>False)
    |_=>False) False
 |_=>False
def fJ(h:Heap)(i g:Nat)(k:Prop):Prop:=match h with
 |⟨_,hl⟩=>dW hl i (fun o=>match o with
  | .vec g' _ _ _=>cQ (Nat.beq g' g) k
  |_=>False) False
def tG(h:Heap)(i g:Nat)(k:Prop):Prop:=match h with
 |⟨_,hl⟩=>dW hl i (fun o=>match o with
  | .vec g' _ _ _=>cQ (Nat.beq g' g) k
  | .js g' _ _=>cQ (Nat.beq g' g) k
  |_=>False) False
def FY(h:Heap)(i g idx sub j sz:Nat)(k:SV->Prop):Prop:=match h with
 |⟨_,hl⟩=>dW hl i (fun o=>match o with
  | .vec g' sz' _ _=>cQ (Nat.beq g' g) (@Bool.rec (fun _=>Prop) (k (.ref i g idx (sub+j*sz))) (k (.ref i g (idx+j) sub)) (Nat.beq sz' sz))
  |_=>False) False
def rm(w v:SV)(sub:Nat)(k:SV->Prop):Prop:=
 match w with
 | .agg cs=>v.fE fun vs=>mg cs sub vs fun cs'=>k (.agg cs')
 |_=>match v with
  | .agg _=>False
  |v=>match sub with|0=>k v|_+1=>False
def SV.known:SV->Bool
 | .undef=>false
 |_=>true
def SV.one:SV->Bool
 | .undef| .agg _| .aN _=>false
 |_=>true
def ff:List SV->Bool
 | []=>true
 |v::r=>v.one&&ff r
def o9(n:Nat)(h:Heap)(p v:SV)(k:Heap->Prop):Prop:=
 v.fE fun vs=>cQ (Nat.beq vs.length n&&ff vs) (match p,h with
 | .ref i g idx sub,⟨m,hl⟩=>dW hl i (fun o=>match o with
  | .vec g' sz elems sk=>cQ (Nat.beq g' g) (match iZ elems idx with
    |some w=>rm w v sub fun w'=>sP elems idx w' fun elems'=>kS hl i (.vec g' sz elems' sk) fun l'=>k ⟨m,l'⟩
    |none=>False)
  |_=>False) False
 |_,_=>False)
def J2(k k':IntKind):Bool:=match k,k' with
 | .i8,.i8| .i16,.i16| .i32,.i32| .i64,.i64| .u8,.u8| .u16,.u16| .u32,.u32| .u64,.u64=>true
 |_,_=>false
def tH(e:Dv)(x y:SV):Option Bool:=match e,x,y with
 | .int,.int k a,.int k' b=>(match J2 k k' with|true=>some (a==b)|false=>none)
 | .str,.str a,.str b=>some (a==b)
 | .bool,.bool a,.bool b=>some (a==b)
 |_,_,_=>none
def cF:List Dv->List SV->List SV->Option Bool
 | [],_,_=>some true
 |e::es,x::xs,y::ys=>
  match tH e x y with
  |some p=>(match es with
   | []=>some p
   |es=>(cF es xs ys).map fun q=>p&&q)
  |none=>none
 |_,_,_=>none
def jc(op:BinOp)(k:IntKind)(x y:Int):Int:=
 let a:=BitVec.ofInt k.bits x
 let b:=BitVec.ofInt k.bits y
 match op with
 | .and=>k.wrap (a &&& b).toNat
 | .or=>k.wrap (a ||| b).toNat
 | .xor=>k.wrap (a ^^^ b).toNat
 |_=>k.wrap (a &&& ~~~b).toNat
def arith(op:BinOp)(k k':IntKind)(a b:Int)(K:SV->Prop):Prop:=
 match op with
 | .shl=>cQ (decide (0<=b)) (K (.int k (k.wrap (a*2^(min b.toNat k.bits)))))
 | .shr=>cQ (decide (0<=b)) (K (.int k (a.fdiv (2^(min b.toNat k.bits)))))
 |op=>cQ (J2 k k') (match op with
  | .add=>K (.int k (k.wrap (a+b)))
  | .sub=>K (.int k (k.wrap (a-b)))
  | .mul=>K (.int k (k.wrap (a*b)))
  | .quo=>cQ (!decide (b=0)) (K (.int k (k.wrap (a.tdiv b))))
  | .rem=>cQ (!decide (b=0)) (K (.int k (a.tmod b)))
  | .eql=>K (.bool (a==b))
  | .neq=>K (.bool (a !=b))
  | .lss=>K (.bool (decide (a<b)))
  | .leq=>K (.bool (decide (a<=b)))
  | .gtr=>K (.bool (decide (b<a)))
  | .geq=>K (.bool (decide (b<=a)))
  | .and=>K (.int k (jc .and k a b))
  | .or=>K (.int k (jc .or k a b))
  | .xor=>K (.int k (jc .xor k a b))
  | .andNot=>K (.int k (jc .andNot k a b))
  |_=>False)
def kD(a b:List UInt8):Bool:=Go.Op.bytesLess a b
def vM(op:BinOp)(a b:List UInt8)(K:SV->Prop):Prop:=
 match op with
 | .add=>cQ (decide (a.length+b.length<=9223372036854775807)) (K (.str (a++b)))
 | .eql=>K (.bool (a==b))
 | .neq=>K (.bool (!(a==b)))
 | .lss=>K (.bool (kD a b))
 | .leq=>K (.bool (kD a b||a==b))
 | .gtr=>K (.bool (!(kD a b||a==b)))
 | .geq=>K (.bool (!kD a b))
 |_=>False
def fA(e:Env):List (Nat×Nat×aR)->List SV->(List SV->Prop)->Prop
 | [],cs,k=>k cs
 |(off,sz,x)::r,cs,k=>x.eJ e fun v=>v.fE fun vs=>cQ (Nat.beq vs.length sz&&Nat.ble (off+sz) cs.length) (mg cs off vs fun cs'=>fA e r cs' k)
def eT(sz:Nat)(e:Env):List (Nat×aR)->List SV->(List SV->Prop)->Prop
 | [],cs,k=>k cs
 |(i,x)::r,cs,k=>x.eJ e fun v=>v.fE fun vs=>cQ (Nat.beq vs.length sz) (sP cs i v fun cs'=>eT sz e r cs' k)
def gb(e:Env)(d:Int)(x:Option aR)(k:Int->Prop):Prop:=match x with
 |none=>k d
 |some y=>y.eJ e fun v=>match v with| .int _ n=>k n|_=>False
structure aP(P:Program)(f:FuncId)(args:List SV)(h:Heap)(k:bV->Heap->Prop):Prop where
 calls: ∀(c:Cx) (w:World) (xs:Array Value),bP c h w->xs.size=args.length->(∀ (i:Nat) (v:SV) (x:Value),args[i]? =some v->xs[i]? =some x->VR c h w v x)->
  Calls P f xs w fun e w'=> ∃c' h' r,k r h'/\bP c' h' w'/\Ext c h w c' h' w'/\match r with
   | .ret v=> ∃x,e= .returned x/\VR c' h' w' v x
   | .cZ v=> ∃x,e= .panicked [{v:=x,recovered:=false}]/\VR c' h' w' v x
structure bH where
 call:FuncId->List SV->Heap->(bV->Heap->Prop)->Prop
 same:SV->SV->Prop->Prop
 fin:Bool->Prop->Prop->Prop
@[reducible] def si (P:Program):bH:=⟨aP P,fun v v' p=>v=v'/\p,fun _ q p=>q/\p⟩
structure bH.Ok(P:Program)(Γ:bH):Prop where
 call: ∀f a h k,Γ.call f a h k->aP P f a h k
 same: ∀v v' p,Γ.same v v' p->Lk v' v/\p
 fin: ∀b q p,Γ.fin b q p->(b=true\/q)/\p
theorem lI{P:Program}:(si P).Ok P:=⟨fun _ _ _ _ h=>h,fun _ _ _ h=>⟨h.1▸ .refl _,h.2⟩,fun _ _ _ h=>⟨.inr h.1,h.2⟩⟩
def gI(P:Program)(f:FuncId):Bool:=match P.funcs[f]? with
 |some fn=>fn.body.isSome&&fn.name != "runtime.NumGoroutine"
 |none=>false
def xw(get:Nat->SV):Nat->Nat->(List SV->Prop)->Prop
 |0,_,k=>k []
 |m+1,j,k=>xw get m (j+1) fun r=>k (get j::r)
def EB:List UInt8->(List SV->Prop)->Prop
 | [],k=>k []
 |b::r,k=>EB r fun l=>k (.int .u8 b.toNat::l)
def FZ:List SV->List SV->(List SV->Prop)->Prop
 | [],m,k=>k m
 |v::r,m,k=>FZ r m fun r'=>k (v::r')
def kT(h:Heap)(sz:Nat)(x:SV)(k:List SV->Prop):Prop:=match x with
 | .ak=>k []
 | .str s=>cQ (Nat.beq sz 1) (EB s k)
 | .eR sz' n get=>cQ (Nat.beq sz' sz) (xw get n 0 k)
 | .sl i g sz' off len _=>cQ (Nat.beq sz' sz) (match h with
   |⟨_,hl⟩=>dW hl i (fun o=>match o with
    | .vec g' _ elems _=>cQ (Nat.beq g' g) (nA elems off fun l=>takeN l len k)
    |_=>False) False)
 |_=>False
def allOnes:List SV->Bool
 | []=>true
 |v::r=>ff v.cells&&allOnes r
def joinTy:Option TypeId->TypeId->Option TypeId
 |some t,u=>bif Nat.beq t u then some u else none
 |none,_=>none
def aO(ty:TypeId)(sz bytes:Nat)(h:Heap)(s x:SV)(k:SV->Heap->Prop):Prop:=
 kT h sz x fun xs=>match xs with
 | []=>(match s with
   | .ak=>k .ak h
   | .sl i g sz' off len cap=>fJ h i g (k (.sl i g sz' off len cap) h)
   | .eR sz' n get=>k (.eR sz' n get) h
   |_=>False)
 |x0::xr=>cQ (allOnes (x0::xr)) (match s with
  | .ak=>cQ (decide ((x0::xr).length<=9223372036854775807)&&decide ((x0::xr).length*bytes<=140737488355328)) (match h with
    |⟨m,l⟩=>k (.sl m 0 sz 0 (x0::xr).length none) ⟨m+1,(m,.vec 0 sz (x0::xr) ⟨true,some ty⟩)::l⟩)
  | .sl i g sz' off len cap=>cQ (Nat.beq sz' sz) (match h with
    |⟨m,hl⟩=>dW hl i (fun o=>match o with
     | .vec g' gy elems sk=>cQ (Nat.beq g' g) (match cap with
       |some cp=> @Bool.rec (fun _=>Prop)
        (cQ (decide (len+(x0::xr).length<=9223372036854775807)&&decide ((len+(x0::xr).length)*bytes<=140737488355328))
         (nA elems off fun l1=>takeN l1 len fun l2=>FZ l2 (x0::xr) fun l3=>k (.sl m 0 sz 0 (len+(x0::xr).length) none) ⟨m+1,(m,.vec 0 sz l3 ⟨true,some ty⟩)::hl⟩))
        (mg elems (off+len) (x0::xr) fun elems'=>kS hl i (.vec g' gy elems' sk) fun l'=>k (.sl i g' sz off (len+(x0::xr).length) (some cp)) ⟨m,l'⟩)
        (Nat.ble (len+(x0::xr).length) cp)
       |none=> @Bool.rec (fun _=>Prop) (cQ (Nat.beq off 0&&Nat.beq len elems.length&&(decide (len+(x0::xr).length<=9223372036854775807)&&decide ((len+(x0::xr).length)*bytes<=140737488355328)))
        (FZ elems (x0::xr) fun l3=>kS hl i (.vec (g'+1) gy l3 ⟨true,joinTy sk.ty ty⟩) fun l'=>k (.sl i (g'+1) sz 0 (len+(x0::xr).length) none) ⟨m,l'⟩))
        (mg elems (off+len) (x0::xr) fun elems'=>kS hl i (.vec g' gy elems' sk) fun l'=>k (.sl i g' sz off (len+(x0::xr).length) none) ⟨m,l'⟩)
        (Nat.blt 0 sz&&Nat.ble (off+len+(x0::xr).length) elems.length))
     |_=>False) False)
  |_=>False)
def mh:List SV->(List UInt8->Prop)->Prop
 | [],k=>k []
 |v::r,k=>match v with
  | .int .u8 n=>mh r fun l=>k (UInt8.ofNat n.toNat::l)
  |_=>False
def J3(id:Nat)(s:List UInt8)(b:Int):Int:=match id with
 |0=>(Lib.countByte s b.toNat.toUInt8:Nat)
 |_=>Lib.indexByte s b.toNat.toUInt8
def xy(s:String):Option Nat:=bif s== "internal/bytealg.CountString" then some 0 else bif s== "internal/bytealg.IndexByteString" then some 1 else none
def F0(h:Heap)(x y:SV)(k:Bool->Prop):Prop:=match x,y with
 | .ez,.ez=>k true
 | .ez,.ref i g _ _=>fJ h i g (k false)
 | .ref i g _ _,.ez=>fJ h i g (k false)
 | .ref i g a b,.ref i' g' a' b'=>cQ (Nat.beq i i'&&Nat.beq g g'&&(Nat.beq a a'&&Nat.beq b b')) (fJ h i g (k true))
 |_,_=>False
def kU:List Nat->Nat->Bool
 | [],_=>false
 |x::r,n=>bif Nat.beq x n then true else kU r n
def mS:List (SV×SV×Nat)->List Nat->List (SV×SV×Nat)
 | [],_=>[]
 |x::r,s=>bif kU s x.2.2 then mS r s else x::mS r s
def Lx:List (SV×SV×Nat)->(SV->SV->Nat->Prop)->Prop
 | [],_=>True
 |x::r,p=>p x.1 x.2.1 x.2.2/\Lx r p
def F1:List Nat->Option Nat
 | []=>none
 |x::r=>match r with
  | []=>some x
  |y::r'=>F1 (y::r')
def Dw:List (SV×SV×Nat)->Nat->Option (SV×SV)
 | [],_=>none
 |x::r,n=>bif Nat.beq x.2.2 n then some (x.1,x.2.1)else Dw r n
def vg(isStr:Bool)(k:SV):Bool:=match isStr,k with
 |true,.str _=>true
 |false,.int _ _=>true
 |_,_=>false
def vN(a b:SV):Option Bool:=match a,b with
 | .str s,.str t=>some (s==t)
 | .int k n,.int k' m=>(match J2 k k' with|true=>some (n==m)|false=>none)
 |_,_=>none
def oK(k:SV):List (SV×SV×Nat)->Nat->(Option (Nat×SV)->Prop)->Prop
 | [],_,K=>K none
 |(a,v,_)::r,i,K=>match vN k a with
  |some b=> @Bool.rec (fun _=>Prop) (oK k r (i+1) K) (K (some (i,v))) b
  |none=>False
def EC:List (SV×SV×Nat)->Nat->SV->SV->List (SV×SV×Nat)
 | [],_,_,_=>[]
 |(a,w,s)::r,i,k,v=>match i with
  |0=>(k,v,s)::r
  |i+1=>(a,w,s)::EC r i k v
def ED(o:Option TypeId)(t:TypeId):Bool:=match o with
 |some u=>Nat.beq u t
 |none=>false
def bw(P:Program)(Γ:bH)(o:n6)(e:Env)(h:Heap)(k:SV->Heap->Prop)(kp:SV->Heap->Prop):Prop:=
 match o with
 | .aS x=>x.eJ e fun v=>k v h
 | .pick c a b=>c.eJ e fun c=>match c with
   | .bool x=>a.eJ e fun va=>b.eJ e fun vb=> @Bool.rec (fun _=>Prop) (k vb h) (k va h) x
   |_=>False
 | .box ty sz x=>x.eJ e fun v=>v.fE fun vs=>cQ (Nat.beq vs.length sz) (match h with
   |⟨n,l⟩=>k (.ref n 0 0 0) ⟨n+1,(n,.vec 0 sz [v] ⟨false,some ty⟩)::l⟩)
 | .tE ty sz x=>x.eJ e fun v=>match v,h with
   | .agg cs,⟨n,l⟩=>cQ (ff cs&&Nat.beq cs.length sz) (k (.ref n 0 0 0) ⟨n+1,(n,.vec 0 1 cs ⟨false,some ty⟩)::l⟩)
   |_,_=>False
 | .build zero parts=>fA e parts zero fun cs=>k (.agg cs) h
 | .buildSlice ty sz zero n parts=>yQ n zero fun z=>eT sz e parts z fun cs=>match h with
   |⟨m,l⟩=>k (.sl m 0 sz 0 n (some n)) ⟨m+1,(m,.vec 0 sz cs ⟨false,some ty⟩)::l⟩
 | .aU x=>x.eJ e fun x=>lH h x fun cs sub=>match iZ cs sub with|some v=>k v h|none=>False
 | .bJ n x=>x.eJ e fun x=>lH h x fun cs sub=>nA cs sub fun cs=>takeN cs n fun l=>k (.agg l) h
 | .store n x v=>x.eJ e fun x=>v.eJ e fun v=>o9 n h x v fun h'=>k (.aN []) h'
 | .bin op x y=>x.eJ e fun x=>y.eJ e fun y=>match x,y with
   | .int kk a,.int k' b=>arith op kk k' a b fun v=>k v h
   | .str a,.str b=>vM op a b fun v=>k v h
   |_,_=>False
 | .Ez neg x y=>x.eJ e fun x=>y.eJ e fun y=>match x,y with
   | .bool a,.bool b=> @Bool.rec (fun _=>Prop) (k (.bool (a==b)) h) (k (.bool (!(a==b))) h) neg
   |_,_=>False
 | .s8 neg ks x y=>x.eJ e fun x=>y.eJ e fun y=>match x,y with
   | .agg a,.agg b=>match cF ks a b with
     |some p=> @Bool.rec (fun _=>Prop) (k (.bool p) h) (k (.bool (!p)) h) neg
     |none=>False
   |_,_=>False
 | .un op x=>x.eJ e fun x=>match op,x with
   | .not,.bool b=>k (.bool (!b)) h
   | .neg,.int kk n=>k (.int kk (kk.wrap (0-n))) h
   | .xor,.int kk n=>k (.int kk (jc .xor kk (if kk.signed then -1 else kk.max) n)) h
   |_,_=>False
 | .conv kk x=>x.eJ e fun x=>match x with
   | .int _ n=>k (.int kk (kk.wrap n)) h
   |_=>False
 | .o4 x=>x.eJ e fun x=>match x with
   | .str s=>k (.str s) h
   |_=>False
 | .toStr x=>x.eJ e fun x=>match x with
   | .str _=>False
   |x=>kT h 1 x fun xs=>mh xs fun bs=>k (.str bs) h
 | .n7 ty x=>x.eJ e fun x=>match x with
   | .str s=>EB s fun xs=>match h with
     |⟨m,l⟩=>k (.sl m 0 1 0 s.length none) ⟨m+1,(m,.vec 0 1 xs ⟨true,some ty⟩)::l⟩
   |_=>False
 | .dB fn a b=>xu e a fun a=>xu e b fun b=>k (.func fn a b) h
 | .dJ t x=>x.eJ e fun v=>k (.iface t v) h
 | .slice sz x lo hi=>x.eJ e fun x=>match x with
   | .eR sz' n get=>cQ (Nat.beq sz' sz) (gb e 0 lo fun l=>gb e n hi fun hh=>
     cQ (decide (0<=l)&&decide (l<=hh)&&decide (hh<=n)) (k (.eR sz' (hh.toNat-l.toNat) fun i=>get (l.toNat+i)) h))
   | .sl i g sz' off len cap=>cQ (Nat.beq sz' sz) (fJ h i g (gb e 0 lo fun l=>gb e len hi fun hh=>
     cQ (decide (0<=l)&&decide (l<=hh)) (match cap with
      |some c=>cQ (decide (hh<=c)) (k (.sl i g sz' (off+l.toNat) (hh.toNat-l.toNat) (some (c-l.toNat))) h)
      |none=>cQ (decide (hh<=len)) (k (.sl i g sz' (off+l.toNat) (hh.toNat-l.toNat) none) h))))
   | .ak=>gb e 0 lo fun l=>gb e 0 hi fun hh=>cQ (decide (l=0)&&decide (hh=0)) (k .ak h)
   |_=>False
 | .bn x lo hi=>x.eJ e fun x=>match x with
   | .str s=>gb e 0 lo fun l=>gb e s.length hi fun hh=>
     cQ (decide (0<=l)&&decide (l<=hh)&&decide (hh<=s.length)) (k (.str ((s.drop l.toNat).take (hh.toNat-l.toNat))) h)
   |_=>False
 | .gH n x lo hi=>x.eJ e fun x=>match x,h with
   | .ref i g idx sub,⟨m,hl⟩=>dW hl i (fun o=>match o with
     | .vec g' sz elems _=>cQ (Nat.beq g' g&&(Nat.beq sub 0&&(Nat.beq sz 1&&Nat.ble (idx+n) elems.length))) (gb e 0 lo fun l=>gb e n hi fun hh=>
      cQ (decide (0<=l)&&decide (l<=hh)&&decide (hh<=n)) (k (.sl i g 1 (idx+l.toNat) (hh.toNat-l.toNat) (some (n-l.toNat))) ⟨m,hl⟩))
     |_=>False) False
   |_,_=>False
 | .fieldAddr off x=>x.eJ e fun x=>match x with
   | .ref i g idx sub=>fJ h i g (k (.ref i g idx (sub+off)) h)
   | .lB v sub=>k (.lB v (sub+off)) h
   |_=>False
 | .o5 off x=>x.eJ e fun x=>match x with
   | .agg cs=>match iZ cs off with|some v=>k v h|none=>False
   |_=>False
 | .o6 off n x=>x.eJ e fun x=>match x with
   | .agg cs=>nA cs off fun cs=>takeN cs n fun l=>k (.agg l) h
   |_=>False
 | .indexAddr sz x i=>x.eJ e fun x=>i.eJ e fun i=>match x,i with
   | .eR sz' n get,.int _ j=>cQ (Nat.beq sz' sz) (cQ (decide (0<=j)&&decide (j<n)) (k (.lB (get j.toNat) 0) h))
   | .sl i g sz' off len _,.int _ j=>cQ (Nat.beq sz' sz) (fJ h i g (cQ (decide (0<=j)&&decide (j<len)) (k (.ref i g (off+j.toNat) 0) h)))
   |_,_=>False
 | .dD n sz x i=>x.eJ e fun x=>i.eJ e fun i=>match x,i with
   | .ref i g idx sub,.int _ j=>cQ (decide (0<=j)&&decide (j<n)) (FY h i g idx sub j.toNat sz fun v=>k v h)
   | .cV g,.int _ j=>cQ (decide (0<=j)&&decide (j<n)) (match qZ g with
     |some v=>k (.lB v (0+j.toNat*sz)) h
     |none=>False)
   | .lB v sub,.int _ j=>cQ (decide (0<=j)&&decide (j<n)) (k (.lB v (sub+j.toNat*sz)) h)
   |_,_=>False
 | .index x i=>x.eJ e fun x=>i.eJ e fun i=>match x,i with
   | .str s,.int _ j=>cQ (decide (0<=j)&&decide (j<s.length)) (k (.int .u8 (s.getD j.toNat 0).toNat) h)
   |_,_=>False
 | .extract x i=>x.eJ e fun x=>match x with
   | .aN l=>match iZ l i with|some v=>k v h|none=>False
   |_=>False
 | .len isStr x=>x.eJ e fun x=>match isStr,x with
   |true,.str s=>k (.int .i64 s.length) h
   |false,.eR _ n _=>k (.int .i64 n) h
   |false,.sl i g _ _ n _=>tG h i g (k (.int .i64 n) h)
   |false,.ak=>k (.int .i64 0) h
   |_,_=>False
 | .mm isMax x y=>x.eJ e fun x=>y.eJ e fun y=>match x,y with
   | .int kk a,.int _ b=> @Bool.rec (fun _=>Prop) (k (.int kk (if b<a then b else a)) h) (k (.int kk (if a<b then b else a)) h) isMax
   |_,_=>False
 | .makeSlice ty sz bytes zero l c=>l.eJ e fun l=>c.eJ e fun c=>match l,c with
   | .int _ n,.int _ c=>cQ (decide (0<=n)&&decide (n<=c)&&decide (bytes*c<=140737488355328)&&decide (c<=9223372036854775807)) (match h with
     |⟨m,hl⟩=>k (.sl m 0 sz 0 n.toNat (some c.toNat)) ⟨m+1,(m,.vec 0 sz (List.replicate c.toNat zero) ⟨false,some ty⟩)::hl⟩)
   |_,_=>False
 | .append ty sz bytes s x=>s.eJ e fun s=>x.eJ e fun x=>aO ty sz bytes h s x k
 | .call f args=>xu e args fun a=>Γ.call f a h fun r h'=>match r with
   | .ret v=>k v h'
   | .cZ v=>kp v h'
 | .jt f args=>f.eJ e fun f=>match f with
   | .func (.func f) first cap=>cQ (gI P f) (xu e args fun a=>Γ.call f (first++(a++cap)) h fun r h'=>match r with
     | .ret v=>k v h'
     | .cZ v=>kp v h')
   |_=>False
 | .aI x=>x.eJ e fun x=>match x with
   | .ref i g idx sub=>fJ h i g (k (.ref i g idx sub) h)
   | .lB v sub=>k (.lB v sub) h
   | .cV g=>k (.cV g) h
   |_=>False
 | .rZ x=>x.eJ e fun x=>match x,h with
   | .ez,h=>k .ez h
   | .ref i g idx sub,⟨m,hl⟩=>dW hl i (fun o=>match o with
     | .vec g' sz elems _=>cQ (Nat.beq g' g&&(Nat.blt idx elems.length&&Nat.blt sub sz)) (k (.ref i g' idx sub) ⟨m,hl⟩)
     |_=>False) False
   |_,_=>False
 | .kC u U9 x=>x.eJ e fun x=>match x,h with
   | .ez,h=>k .ez h
   | .ref i g idx sub,⟨m,hl⟩=>dW hl i (fun o=>match o with
     | .vec g' sz elems sk=>cQ (Nat.beq g' g&&(Nat.beq idx 0&&Nat.beq sub 0)&&(Nat.beq sz U9&&Nat.beq elems.length 1)&&(!sk.eS&&ED sk.ty u)) (k (.ref i g' 0 0) ⟨m,hl⟩)
     |_=>False) False
   |_,_=>False
 | .sg x=>x.eJ e fun v=>k v h
 | .xq id x y=>x.eJ e fun x=>y.eJ e fun y=>match x,y with
   | .str s,.int .u8 b=>k (.int .i64 (J3 id s b)) h
   |_,_=>False
 | .lG ty x=>x.eJ e fun x=>match x,h with
   | .int .i64 n,⟨m,l⟩=>cQ (decide (0<=n)&&decide (n<=140737488355328)) (k (.sl m 0 1 0 n.toNat none) ⟨m+1,(m,.vec 0 1 [] ⟨true,some ty⟩)::l⟩)
   |_,_=>False
 | .Ie neg x y=>x.eJ e fun x=>y.eJ e fun y=>F0 h x y fun b=> @Bool.rec (fun _=>Prop) (k (.bool b) h) (k (.bool (!b)) h) neg
 | .gx x=>x.eJ e fun x=>match x with
   | .ak=>k .ez h
   | .sl i g _ off len _=>cQ (Nat.blt 0 len) (tG h i g (k (.ref i g off 0) h))
   |_=>False
 | .ri et x n=>x.eJ e fun x=>n.eJ e fun n=>match x,n,h with
   | .ez,.int .i64 n,h=>cQ (decide (n=0)) (k (.str []) h)
   | .ref i g idx sub,.int .i64 n,⟨m,hl⟩=>dW hl i (fun o=>match o with
     | .vec g' sz elems sk=>cQ (Nat.beq g' g&&(Nat.beq idx 0&&Nat.beq sub 0)&&(Nat.beq sz 1&&ED sk.ty et)&&(decide (0<n)&&decide (n<=9223372036854775807)))
      (takeN elems n.toNat fun xs=>mh xs fun bs=>kS hl i (.js g' et xs) fun hl'=>k (.str bs) ⟨m,hl'⟩)
     | .js g' ty elems=>cQ (Nat.beq g' g&&(Nat.beq idx 0&&Nat.beq sub 0)&&Nat.beq ty et&&(decide (0<n)&&decide (n<=9223372036854775807)))
      (takeN elems n.toNat fun xs=>mh xs fun bs=>kS hl i (.js g' et elems) fun hl'=>k (.str bs) ⟨m,hl'⟩)
     |_=>False) False
   |_,_,_=>False
 | .qi x=>x.eJ e fun x=>match x with
   | .ak=>k (.int .i64 0) h
   | .sl i g _ _ _ (some c)=>fJ h i g (k (.int .i64 c) h)
   |_=>False
 | .panic x=>x.eJ e fun x=>match x with
   | .iface t v=>kp (.iface t v) h
   |_=>False
 | .rj x=>x.eJ e fun x=>match x,h with
   | .str s,⟨n,l⟩=>k (.ref n 0 0 0) ⟨n+1,(n,.iter s 0)::l⟩
   |_,_=>False
 | .vK x=>x.eJ e fun x=>match x,h with
   | .ref i g idx sub,⟨m,hl⟩=>cQ (Nat.beq g 0&&(Nat.beq idx 0&&Nat.beq sub 0)) (dW hl i (fun o=>match o with
     | .iter s pos=> @Bool.rec (fun _=>Prop) (k (.aN [.bool false]) ⟨m,hl⟩)
      (match Utf8.decode ⟨s.toArray⟩ pos with
       |(c,wd)=>kS hl i (.iter s (pos+wd)) fun l'=>k (.aN [.bool true,.int .i64 pos,.int .i32 c]) ⟨m,l'⟩) (Nat.blt pos s.length)
     |_=>False) False)
   |_,_=>False
 | .o7 x=>x.eJ e fun x=>match x,h with
   | .fD,⟨n,l⟩=>k (.ref n 0 0 0) ⟨n+1,(n,.bU .fD 0 [] 0)::l⟩
   | .cJ i g,⟨n,hl⟩=>dW hl i (fun o=>match o with
     | .map _ cl=>cQ (Nat.beq g 0) (k (.ref n 0 0 0) ⟨n+1,(n,.bU (.cJ i g) cl [] cl)::hl⟩)
     |_=>False) False
   |_,_=>False
 | .tF x=>x.eJ e fun x=>match x,h with
   | .ref j g _ sub,⟨n,hl⟩=>cQ (Nat.beq g 0&&Nat.beq sub 0) (dW hl j (fun o=>match o with
     | .bU m since seen stepped=>(match m with
       | .cJ i g'=>cQ (Nat.beq g' 0) (dW hl i (fun o=>match o with
         | .map es cl=>cQ (Nat.ble since stepped&&es.all fun x=>Nat.blt x.2.2 since&&(ec 4 x.1&&ec 4 x.2.1))
           (match mS es seen with
            | []=>k (.aN [.bool false]) ⟨n,hl⟩
            |x::r=>Lx (x::r) fun kk v born=>kS hl j (.bU (.cJ i g') since (seen++[born]) cl) fun l'=>k (.aN [.bool true,kk,v]) ⟨n,l'⟩)
         |_=>False) False)
       |_=>False)
     |_=>False) False)
   |_,_=>False
 | .entry x=>x.eJ e fun x=>match x,h with
   | .ref j g _ sub,⟨n,hl⟩=>cQ (Nat.beq g 0&&Nat.beq sub 0) (dW hl j (fun o=>match o with
     | .bU m _ seen stepped=>(match m with
       | .cJ i g'=>cQ (Nat.beq g' 0) (dW hl i (fun o=>match o with
         | .map es cl=>cQ (Nat.beq cl stepped&&es.all fun x=>ec 4 x.1&&ec 4 x.2.1)
           (match F1 seen with
            |some s=>(match Dw es s with
             |some (kk,v)=>k (.aN [kk,v]) ⟨n,hl⟩
             |none=>False)
            |none=>False)
         |_=>False) False)
       |_=>False)
     |_=>False) False)
   |_,_=>False
 | .mkMap=>match h with
   |⟨n,l⟩=>k (.cJ n 0) ⟨n+1,(n,.map [] 0)::l⟩
 | .bM isStr m kk v=>m.eJ e fun m=>kk.eJ e fun kk=>v.eJ e fun v=>match m,h with
   | .cJ i g,⟨n,hl⟩=>dW hl i (fun o=>match o with
     | .map es cl=>cQ (Nat.beq g 0&&(vg isStr kk&&ec 4 v)) (oK kk es 0 fun r=>match r with
       |some (j,_)=>kS hl i (.map (EC es j kk v) cl) fun l'=>k (.aN []) ⟨n,l'⟩
       |none=>kS hl i (.map (es++[(kk,v,cl)]) (cl+1)) fun l'=>k (.aN []) ⟨n,l'⟩)
     |_=>False) False
   |_,_=>False
 | .gW isStr zero ok m kk=>m.eJ e fun m=>kk.eJ e fun kk=>match m,h with
   | .fD,h=>cQ (vg isStr kk) (@Bool.rec (fun _=>Prop) (k zero h) (k (.aN [zero,.bool false]) h) ok)
   | .cJ i g,⟨n,hl⟩=>dW hl i (fun o=>match o with
     | .map es _=>cQ (Nat.beq g 0&&vg isStr kk) (oK kk es 0 fun r=>match r with
       |some (_,v)=> @Bool.rec (fun _=>Prop) (k v ⟨n,hl⟩) (k (.aN [v,.bool true]) ⟨n,hl⟩) ok
       |none=> @Bool.rec (fun _=>Prop) (k zero ⟨n,hl⟩) (k (.aN [zero,.bool false]) ⟨n,hl⟩) ok)
     |_=>False) False
   |_,_=>False
 | .Bj x=>x.eJ e fun x=>match x,h with
   | .fD,h=>k (.int .i64 0) h
   | .cJ i g,⟨n,hl⟩=>dW hl i (fun o=>match o with
     | .map es _=>cQ (Nat.beq g 0) (k (.int .i64 es.length) ⟨n,hl⟩)
     |_=>False) False
   |_,_=>False
 | .yN t zero ok x=>x.eJ e fun x=>match x with
   | .iface u v=> @Bool.rec (fun _=>Prop) (@Bool.rec (fun _=>Prop) False (k (.aN [zero,.bool false]) h) ok) (@Bool.rec (fun _=>Prop) (k v h) (k (.aN [v,.bool true]) h) ok) (Nat.beq u t)
   | .de=> @Bool.rec (fun _=>Prop) False (k (.aN [zero,.bool false]) h) ok
   |_=>False
 | .FX neg x y=>x.eJ e fun x=>y.eJ e fun y=>match x,y with
   | .de,.de=> @Bool.rec (fun _=>Prop) (k (.bool true) h) (k (.bool false) h) neg
   | .de,.iface _ _=> @Bool.rec (fun _=>Prop) (k (.bool false) h) (k (.bool true) h) neg
   | .iface _ _,.de=> @Bool.rec (fun _=>Prop) (k (.bool false) h) (k (.bool true) h) neg
   |_,_=>False
 | .J0 neg x y=>x.eJ e fun x=>y.eJ e fun y=>match x,y with
   | .ak,.ak=> @Bool.rec (fun _=>Prop) (k (.bool true) h) (k (.bool false) h) neg
   | .ak,.sl i g _ _ _ _=>fJ h i g (@Bool.rec (fun _=>Prop) (k (.bool false) h) (k (.bool true) h) neg)
   | .sl i g _ _ _ _,.ak=>fJ h i g (@Bool.rec (fun _=>Prop) (k (.bool false) h) (k (.bool true) h) neg)
   | .ak,.eR _ n _=>cQ (Nat.blt 0 n) (@Bool.rec (fun _=>Prop) (k (.bool false) h) (k (.bool true) h) neg)
   | .eR _ n _,.ak=>cQ (Nat.blt 0 n) (@Bool.rec (fun _=>Prop) (k (.bool false) h) (k (.bool true) h) neg)
   |_,_=>False
 | .slice3 sz x lo hi mx=>x.eJ e fun x=>match x with
   | .eR sz' n get=>cQ (Nat.beq sz' sz) (gb e 0 lo fun l=>gb e n hi fun hh=>gb e 0 (some mx) fun mm=>
     cQ (decide (0<=l)&&decide (l<=hh)&&(decide (hh<=mm)&&decide (mm<=n))) (k (.eR sz' (hh.toNat-l.toNat) fun i=>get (l.toNat+i)) h))
   | .sl i g sz' off len cap=>cQ (Nat.beq sz' sz) (fJ h i g (gb e 0 lo fun l=>gb e len hi fun hh=>gb e 0 (some mx) fun mm=>
     cQ (decide (0<=l)&&decide (l<=hh)&&(decide (hh<=mm)&&decide (mm<=match cap with|some c=>c|none=>len)))
      (k (.sl i g sz' (off+l.toNat) (hh.toNat-l.toNat) (some (mm.toNat-l.toNat))) h)))
   | .ak=>gb e 0 lo fun l=>gb e 0 hi fun hh=>gb e 0 (some mx) fun mm=>cQ (decide (l=0)&&(decide (hh=0)&&decide (mm=0))) (k .ak h)
   |_=>False
 | .vL x y=>x.eJ e fun x=>y.eJ e fun y=>match x,y with
   | .ak,.ak=>k (.int .i64 0) h
   | .sl i g _ _ _ _,.ak=>fJ h i g (k (.int .i64 0) h)
   |_,_=>False
 | .OV sz zero x=>x.eJ e fun x=>match x with
   | .ak=>k (.aN []) h
   | .sl i g sz' off len _=>cQ (Nat.beq sz' sz) (match h with
     |⟨m,hl⟩=>dW hl i (fun o=>match o with
      | .vec g' gy elems sk=>cQ (Nat.beq g' g) (yQ len zero fun zs=>cQ (allOnes zs) (mg elems off zs fun elems'=>kS hl i (.vec g' gy elems' sk) fun l'=>k (.aN []) ⟨m,l'⟩))
      |_=>False) False)
   |_=>False
 | .EA _ _=>False
 | .J1=>False
 | .bad=>False
def lJ(e:Env)(d:Option Nat)(v:SV)(k:Env->Prop):Prop:=match d with
 |some t=>Env.yO e t v k
 |none=>k e
def fh(e:Env)(g:Option (Nat×Bool))(run:Env->Prop)(skip:Env->Prop):Prop:=match g with
 |none=>run e
 |some (t,want)=>Env.sO e t fun g=>match g with
  | .bool x=> @Bool.rec (fun _=>Prop)
   (Env.yO e t (.bool false) fun e=> @Bool.rec (fun _=>Prop) (run e) (skip e) want)
   (Env.yO e t (.bool true) fun e=> @Bool.rec (fun _=>Prop) (skip e) (run e) want) x
  | .aN _=>skip e
  |_=>False
def Ly(P:Program)(Γ:bH)(l:List aF):Env->Heap->(Env->Heap->Prop)->(SV->Env->Heap->Prop)->Prop:=
 @List.rec aF (fun _=>Env->Heap->(Env->Heap->Prop)->(SV->Env->Heap->Prop)->Prop) (fun e h k _=>k e h)
  (fun o _ ih e h k kp=>fh e o.guard
   (fun e=>bw P Γ o.op e h (fun v h'=>lJ e o.dst v fun e'=>ih e' h' k kp) (fun v h'=>kp v e h'))
   (fun e=>lJ e o.dst (.aN []) fun e'=>ih e' h k kp)) l
def qj(eq:SV->SV->Bool):List SV->List SV->Bool
 | [],[]=>true
 |a::r,b::s=>eq a b&&qj eq r s
 |_,_=>false
def mZ:Nat->SV->SV->Bool
 |0,_,_=>false
 |n+1,a,b=>match a,b with
  | .bool a,.bool b=>a==b
  | .int k a,.int k' b=>J2 k k'&&decide (a=b)
  | .str s,.str t=>decide (s=t)
  | .ez,.ez=>true
  | .ref i g x y,.ref i' g' x' y'=>Nat.beq i i'&&(Nat.beq g g'&&(Nat.beq x x'&&Nat.beq y y'))
  | .cV g,.cV g'=>Nat.beq g g'
  | .ak,.ak=>true
  | .sl i g a b c none,.sl i' g' a' b' c' none=>Nat.beq i i'&&(Nat.beq g g'&&(Nat.beq a a'&&(Nat.beq b b'&&Nat.beq c c')))
  | .sl i g a b c (some d),.sl i' g' a' b' c' (some d')=>Nat.beq i i'&&(Nat.beq g g'&&(Nat.beq a a'&&(Nat.beq b b'&&(Nat.beq c c'&&Nat.beq d d'))))
  | .gV,.gV=>true
  | .de,.de=>true
  | .fD,.fD=>true
  | .cJ i g,.cJ i' g'=>Nat.beq i i'&&Nat.beq g g'
  | .iface t v,.iface t' v'=>Nat.beq t t'&&mZ n v v'
  | .agg l,.agg l'=>qj (mZ n) l l'
  | .aN l,.aN l'=>qj (mZ n) l l'
  |_,_=>false
def F2(p:Nat->Bool):Nat->Bool
 |0=>true
 |n+1=>p n&&F2 p n
def kE(p:SV->SV->Bool):List SV->List SV->Bool
 | [],[]=>true
 |a::r,b::s=>p a b&&kE p r s
 |_,_=>false
def Dx:Nat->SV->SV->Bool
 |0,_,_=>false
 |n+1,a,b=>match a,b with
  | .eR sz m g,.eR sz' m' g'=>Nat.beq sz sz'&&(Nat.beq m m'&&F2 (fun j=>Dx n (g j) (g' j)) m)
  | .agg l,.agg l'=>kE (Dx n) l l'
  | .aN l,.aN l'=>kE (Dx n) l l'
  | .iface t v,.iface t' v'=>Nat.beq t t'&&Dx n v v'
  | .undef,.undef=>true
  | .lB v s,.lB v' s'=>Nat.beq s s'&&Dx n v v'
  | .func (.func f) x y,.func (.func f') x' y'=>Nat.beq f f'&&(qj (mZ n) x x'&&qj (mZ n) y y')
  |a,b=>mZ (n+1) a b
def Ir(e':Env):Env->Bool
 | []=>true
 |(t,v)::r=>Dx 8 v (Env.get e' t)&&Ir e' r
def Dy:List Nat->List Nat->Bool
 | [],[]=>true
 |a::r,b::s=>Nat.beq a b&&Dy r s
 |_,_=>false
def Is:List (SV×SV×Nat)->List (SV×SV×Nat)->Bool
 | [],[]=>true
 |a::r,b::s=>mZ 8 a.1 b.1&&(mZ 8 a.2.1 b.2.1&&(Nat.beq a.2.2 b.2.2&&Is r s))
 |_,_=>false
def F3:aA->aA->Bool
 | .vec g sz es sk,.vec g' sz' es' It=>Nat.beq g g'&&(Nat.beq sz sz'&&(kE (Dx 8) es es'&&(sk.eS==It.eS&&(match sk.ty,It.ty with
   |none,none=>true
   |some t,some t'=>Nat.beq t t'
   |_,_=>false))))
 | .iter s p,.iter s' p'=>decide (s=s')&&Nat.beq p p'
 | .map es c,.map es' c'=>Nat.beq c c'&&Is es es'
 | .bU m a b c,.bU m' a' b' c'=>mZ 8 m m'&&(Nat.beq a a'&&(Dy b b'&&Nat.beq c c'))
 | .js g t xs,.js g' t' xs'=>Nat.beq g g'&&(Nat.beq t t'&&qj (mZ 8) xs xs')
 |_,_=>false
def Rj:List (Nat×aA)->List (Nat×aA)->Bool
 | [],[]=>true
 |(i,o)::r,(j,p)::s=>Nat.beq i j&&(F3 o p&&Rj r s)
 |_,_=>false
def s9(o:aF):Bool:=match o.op with
 | .buildSlice _ _ _ _ _=>(match o.guard with
   |none=>(match o.dst with|some _=>true|none=>false)
   |some _=>false)
 |_=>false
def nB(P:Program)(Γ:bH)(ops:List aF)(l:List Nat):Env->Heap->Prop->Prop:=
 @List.rec Nat (fun _=>Env->Heap->Prop->Prop) (fun _ _ p=>p)
  (fun j _ ih e h p=>match iZ ops j with
   |none=>False
   |some o=> @Bool.rec (fun _=>Prop) (ih e h p) (bw P Γ o.op e h (fun _ _=>ih e h p) (fun _ _=>False)) (s9 o)) l
theorem yR(P:Program)(Γ:bH)(ops:List aF)(j:Nat)(r:List Nat)(e:Env)(h:Heap)(p:Prop):nB P Γ ops (j::r) e h p=match iZ ops j with
 |none=>False
 |some o=> @Bool.rec (fun _=>Prop) (nB P Γ ops r e h p) (bw P Γ o.op e h (fun _ _=>nB P Γ ops r e h p) (fun _ _=>False)) (s9 o):=rfl
def mj(P:Program)(Γ:bH)(ops:List aF)(l:List Nat):Env->Heap->Prop->Prop:=
 @List.rec Nat (fun _=>Env->Heap->Prop->Prop) (fun _ _ p=>p)
  (fun j _ ih e h p=>match iZ ops j with
   |none=>False
   |some o=> @Bool.rec (fun _=>Prop) (fh e o.guard
    (fun e=>bw P Γ o.op e h (fun v _=>match o.dst with|some t=>Env.sO e t fun v'=>Γ.same v v' (ih e h p)|none=>ih e h p) (fun _ _=>False))
    (fun e=>ih e h p)) (ih e h p) (s9 o)) l
theorem yS(P:Program)(Γ:bH)(ops:List aF)(j:Nat)(r:List Nat)(e:Env)(h:Heap)(p:Prop):mj P Γ ops (j::r) e h p=match iZ ops j with
 |none=>False
 |some o=> @Bool.rec (fun _=>Prop) (fh e o.guard
  (fun e=>bw P Γ o.op e h (fun v _=>match o.dst with|some t=>Env.sO e t fun v'=>Γ.same v v' (mj P Γ ops r e h p)|none=>mj P Γ ops r e h p) (fun _ _=>False))
  (fun e=>mj P Γ ops r e h p)) (mj P Γ ops r e h p) (s9 o):=rfl
def Bk(P:Program)(Γ:bH)(o:aF)(e:Env)(h:Heap)(K:Env->Heap->Prop):Prop:=
 fh e o.guard (fun e=>bw P Γ o.op e h (fun v h'=>lJ e o.dst v fun e'=>K e' h') (fun _ _=>False)) (fun e=>lJ e o.dst (.aN []) fun e'=>K e' h)
def Iu(P:Program)(Γ:bH)(ops:List aF):List Nat->Env->Heap->(Env->Heap->Prop)->Prop
 | [],e,h,K=>K e h
 |i::r,e,h,K=>match iZ ops i with
  |none=>False
  |some o=>Bk P Γ o e h fun e' h'=>Iu P Γ ops r e' h' K
def tI:List Nat->Nat->List Nat
 | [],_=>[]
 |j::r,i=>bif Nat.beq j i then tI r i else j::tI r i
def rq:List Nat->List Nat->Bool
 | [],_=>true
 |k::r,rem=>(bif kU rem k then false else true)&&rq r rem
def yT:List Nat->(Nat->Prop->Prop)->Prop->Prop
 | [],_,p=>p
 |i::r,f,p=>f i (yT r f p)
def xA(P:Program)(Γ:bH)(ops:List aF)(yJ:Env->Heap->Prop->Prop):Nat->List Nat->Env->Heap->Prop->Prop
 |0,rem,e,h,p=>match rem with
  | []=>yJ e h p
  |_::_=>False
 |n+1,rem,e,h,p=>match rem with
  | []=>yJ e h p
  |x::r=>yT (x::r) (fun i q=>match iZ ops i with
   |none=>False
   |some o=> @Bool.rec (fun _=>Prop) q (Bk P Γ o e h fun e' h'=>xA P Γ ops yJ n (tI (x::r) i) e' h' q) (rq o.pre (x::r))) p
theorem vO(P:Program)(Γ:bH)(ops:List aF)(yJ:Env->Heap->Prop->Prop)(n x:Nat)(r:List Nat)(e:Env)(h:Heap)(p:Prop):xA P Γ ops yJ (n+1) (x::r) e h p=yT (x::r) (fun i q=>match iZ ops i with
 |none=>False
 |some o=> @Bool.rec (fun _=>Prop) q (Bk P Γ o e h fun e' h'=>xA P Γ ops yJ n (tI (x::r) i) e' h' q) (rq o.pre (x::r))) p:=rfl
def F4(e':Env):Env->Prop
 | []=>True
 |(t,v)::r=>Env.get e' t=v/\F4 e' r
def Rk(e1:Env)(h1:Heap)(e2:Env)(h2:Heap):Bool:=Ir e2 e1&&(Nat.beq h2.dA h1.dA&&Rj h1.l h2.l)
def Dz(P:Program)(Γ:bH)(ops:List aF)(T:List Nat)(e:Env)(h:Heap)(k:Env->Heap->Prop):Prop:=
 Iu P Γ ops T e h fun e1 h1=>xA P Γ ops (fun e' h' p=>Γ.fin (Rk e1 h1 e' h') (F4 e' e1/\h1=h') p) T.length T e h (k e1 h1)
def ju(P:Program)(Γ:bH)(ops:List aF)(l:List (Nat×Bool×List Nat)):Env->Heap->(Env->Heap->Prop)->(SV->Env->Heap->Prop)->Prop:=
 @List.rec (Nat×Bool×List Nat) (fun _=>Env->Heap->(Env->Heap->Prop)->(SV->Env->Heap->Prop)->Prop) (fun e h k _=>k e h)
  (fun x r ih e h k kp=>match x with
   |(i,_,again)=> @Bool.rec (fun _=>Prop) (match iZ ops i with
    |none=>False
    |some o=>nB P Γ ops again e h (fh e o.guard
     (fun e=>bw P Γ o.op e h (fun v h'=>lJ e o.dst v fun e'=>mj P Γ ops again e' h' (ih e' h' k kp)) (fun v h'=>kp v [] h'))
     (fun e=>lJ e o.dst (.aN []) fun e'=>ih e' h k kp))) (Dz P Γ ops (i::r.map fun y=>y.1) e h k) (kU again i)) l
theorem Bl(P:Program)(Γ:bH)(ops:List aF)(i:Nat)(b:Bool)(again:List Nat)(r:List (Nat×Bool×List Nat))(e:Env)(h:Heap)(k:Env->Heap->Prop)(kp:SV->Env->Heap->Prop)(hm:kU again i=true):
  ju P Γ ops ((i,b,again)::r) e h k kp=Dz P Γ ops (i::r.map fun y=>y.1) e h k:=by
 show@Bool.rec (fun _=>Prop) _ (Dz P Γ ops (i::r.map fun y=>y.1) e h k) (kU again i)=_;rw[hm]
theorem gX(P:Program)(Γ:bH)(ops:List aF)(i:Nat)(b:Bool)(again:List Nat)(r:List (Nat×Bool×List Nat))(e:Env)(h:Heap)(k:Env->Heap->Prop)(kp:SV->Env->Heap->Prop)(hm:kU again i=false):
  ju P Γ ops ((i,b,again)::r) e h k kp=match iZ ops i with
   |none=>False
   |some o=>nB P Γ ops again e h (fh e o.guard
    (fun e=>bw P Γ o.op e h (fun v h'=>lJ e o.dst v fun e'=>mj P Γ ops again e' h' (ju P Γ ops r e' h' k kp)) (fun v h'=>kp v [] h'))
    (fun e=>lJ e o.dst (.aN []) fun e'=>ju P Γ ops r e' h k kp)):=by
 show@Bool.rec (fun _=>Prop) (match iZ ops i with
      |none=>False
      |some o=>nB P Γ ops again e h (fh e o.guard
       (fun e=>bw P Γ o.op e h (fun v h'=>lJ e o.dst v fun e'=>mj P Γ ops again e' h' (ju P Γ ops r e' h' k kp)) (fun v h'=>kp v [] h'))
       (fun e=>lJ e o.dst (.aN []) fun e'=>ju P Γ ops r e' h k kp))) _ (kU again i)=_
 rw[hm]
def bf:Nat->Value->SV
 |0,_=> .undef
 |n+1,v=>match v with
  | .bool b=> .bool b
  | .int k m=> .int k m
  | .string s=> .str s.data.toList
  | .pointer none=> .ez
  | .slice none 0 0=> .ak
  | .nilFunc=> .gV
  | .nilIface=> .de
  | .map none=> .fD
  | .iface t v=> .iface t (bf n v)
  | .agg cs=> .agg (cs.toList.map (bf n))
  | .tuple cs=> .aN (cs.toList.map (bf n))
  |_=> .undef
def aC:Operand->aR
 | .tmp t=> .tmp t
 | .const v=> .const (bf 4 v)
 | .global g=> .const (.cV g)
 | .func f=> .const (.func (.func f) [] [])
def ja(P:Program)(t:TypeId):Option Bool:=match P.underlying t with
 |some (.struct _)|some (.array _ _)=>some true
 |some _=>some false
 |none=>none
def jg(P:Program):Nat->List Field->Option (List Dv)
 |_,[]=>some []
 |n,f::r=>bif f.name != "_" &&Nat.beq f.offset n then(match P.underlying f.type with
  |some (.int _)=>(jg P (n+1) r).map (.int:: ·)
  |some .string=>(jg P (n+1) r).map (.str:: ·)
  |some .bool=>(jg P (n+1) r).map (.bool:: ·)
  |_=>none)else none
def fK(P:Program):Nat->List Field->Option (List Dv)
 |_,[]=>some []
 |n,f::r=>bif f.name != "_" &&Nat.beq f.offset n then(match P.underlying f.type with
  |some (.int _)=>(fK P (n+1) r).map (.int:: ·)
  |some .string=>(fK P (n+1) r).map (.str:: ·)
  |some .bool=>(fK P (n+1) r).map (.bool:: ·)
  |some (.struct gs)=>bif P.stoodInHeld f.type then none else(match jg P 0 gs.toList,P.info? f.type with
   |some ks,some i=>bif Nat.beq i.size ks.length then(fK P (n+ks.length) r).map (ks++ ·)else none
   |_,_=>none)
  |_=>none)else none
def pg:Option TypeDesc->Bool
 |some (.slice _)|some .string=>true
 |_=>false
def isConst:Operand->Bool
 | .const _=>true
 |_=>false
def EE(P:Program)(t:TypeId):Option Bool:=match P.underlying t with
 |some .string=>some true
 |some (.int _)=>some false
 |_=>none
def EF(P:Program)(t:TypeId):Bool:=match P.underlying t with
 |some (.array _ e)=>(match P.info? e with|some i=>Nat.beq i.size 1|none=>false)
 |_=>false
def ko(P:Program)(o:Op):n6:=match o with
 | .move x| .assign x=> .aS (aC x)
 | .pick c a b=> .pick (aC c) (aC a) (aC b)
 | .alloc t=>match P.info? t with
   |some i=>match i.zero with|some z=>bif EF P t then .tE t i.size (.const (bf 4 z))else .box t i.size (.const (bf 4 z))|none=> .bad
   |none=> .bad
 | .box t x=>match P.info? t with|some i=>bif EF P t then .tE t i.size (aC x)else .box t i.size (aC x)|none=> .bad
 | .build t ps=>match P.underlying t,P.info? t with
   |some (.struct fs),some i=>match i.zero with
    |some z=>bif !((bf 4 z).known&&fs.toList.all fun f=>(P.info? f.type).isSome)then .bad else match ps.toList.mapM fun(j,x)=>(fs[j]?).bind fun f=>(P.info? f.type).map fun g=>(f.offset,g.size,aC x)with
     |some l=> .build (bf 4 z).cells l
     |none=> .bad
    |none=> .bad
   |_,_=> .bad
 | .buildSlice t n ps=>match P.underlying t with
   |some (.slice e)=>match P.info? e with
    |some i=>match i.zero with
     |some z=>bif Nat.ble (n*i.size) 16777216&&(Nat.beq (bf 4 z).cells.length i.size&&(bf 4 z).known)then .buildSlice e i.size (bf 4 z) n (ps.toList.map fun(j,x)=>(j,aC x))else .bad
     |none=> .bad
    |none=> .bad
   |_=> .bad
 | .load t x=>match ja P t,P.info? t with
   |some true,some i=> .bJ i.size (aC x)
   |some false,_=> .aU (aC x)
   |_,_=> .bad
 | .store t x v=>match P.info? t with|some i=> .store i.size (aC x) (aC v)|none=> .bad
 | .binOp op t x y _=>match P.underlying t with
   |some (.int _)|some .string=> .bin op (aC x) (aC y)
   |some .bool=>match op with
    | .eql=> .Ez false (aC x) (aC y)
    | .neq=> .Ez true (aC x) (aC y)
    |_=> .bad
   |some (.pointer e)=>(match P.info? e,op with
    |some i,.eql=>bif Nat.beq i.size 0 then .bad else .Ie false (aC x) (aC y)
    |some i,.neq=>bif Nat.beq i.size 0 then .bad else .Ie true (aC x) (aC y)
    |_,_=> .bad)
   |some (.slice _)=>(match op with
    | .eql=> .J0 false (aC x) (aC y)
    | .neq=> .J0 true (aC x) (aC y)
    |_=> .bad)
   |some (.interface _)=>bif isConst x||isConst y then(match op with
    | .eql=> .FX false (aC x) (aC y)
    | .neq=> .FX true (aC x) (aC y)
    |_=> .bad)else .bad
   |some (.struct fs)=>bif !P.stoodInHeld t&& !P.eqGuardType P.depth t then(match fK P 0 fs.toList,op with
    |some ks,.eql=> .s8 false ks (aC x) (aC y)
    |some ks,.neq=> .s8 true ks (aC x) (aC y)
    |_,_=> .bad)else .bad
   |_=> .bad
 | .unOp u _ x=> .un u (aC x)
 | .convert s d x=>match P.underlying s,P.underlying d with
   |some (.int _),some (.int k)=> .conv k (aC x)
   |some .string,some .string=> .o4 (aC x)
   |some (.slice e),some .string=>(match P.underlying e,P.info? e with
    |some (.int .u8),some i=>bif Nat.beq i.size 1 then .toStr (aC x)else .bad
    |_,_=> .bad)
   |some (.pointer u),some .unsafePointer=>(match P.info? u with
    |some i=>bif Nat.beq i.size 0 then .bad else .rZ (aC x)
    |none=> .bad)
   |some .unsafePointer,some (.pointer u)=>(match P.info? u with
    |some i=>bif !Nat.beq i.size 0&&(Nat.beq (P.cellsOf u) i.size&&liesAt P P.depth u 1 0 u 1)then .kC u i.size (aC x)else .bad
    |none=> .bad)
   |some .string,some (.slice e)=>(match P.underlying e,P.info? e with
    |some (.int .u8),some i=>bif Nat.beq i.size 1 then .n7 e (aC x)else .bad
    |_,_=> .bad)
   |_,_=> .bad
 | .makeFunc fn a b=> .dB fn (a.toList.map aC) (b.toList.map aC)
 | .makeInterface t x=>match P.underlying t with
   |some (.interface _)=> .bad
   |some _=> .dJ t (aC x)
   |none=> .bad
 | .slice t x lo hi none=>match P.underlying t with
   |some (.slice e)=>match P.info? e with|some i=> .slice i.size (aC x) (lo.map aC) (hi.map aC)|none=> .bad
   |some .string=> .bn (aC x) (lo.map aC) (hi.map aC)
   |some (.array n e)=>(match P.info? e with|some i=>bif Nat.beq i.size 1 then .gH n (aC x) (lo.map aC) (hi.map aC)else .bad|none=> .bad)
   |_=> .bad
 | .slice t x lo (some hi) (some m)=>match P.underlying t with
   |some (.slice e)=>match P.info? e with|some i=> .slice3 i.size (aC x) (lo.map aC) (some (aC hi)) (aC m)|none=> .bad
   |_=> .bad
 | .range t x=>match P.underlying t with
   |some .string=> .rj (aC x)
   |some (.map _ _)=> .o7 (aC x)
   |_=> .bad
 | .next x true=> .vK (aC x)
 | .next x false=> .tF (aC x)
 | .entry x=> .entry (aC x)
 | .makeMap _ none=> .mkMap
 | .mapUpdate t m k v| .insert t m k v=>match P.underlying t with
   |some (.map kt _)=>(match EE P kt with|some b=> .bM b (aC m) (aC k) (aC v)|none=> .bad)
   |_=> .bad
 | .lookup t m k ok=>match P.underlying t with
   |some (.map kt e)=>(match P.info? e with
    |some i=>match i.zero with
     |some z=>(match EE P kt with|some b=>bif ec 4 (bf 4 z)then .gW b (bf 4 z) ok (aC m) (aC k)else .bad|none=> .bad)
     |none=> .bad
    |none=> .bad)
   |_=> .bad
 | .typeAssert x _ t ok=>match P.underlying t,P.info? t with
   |some (.interface _),_=> .bad
   |some _,some i=>(match i.zero with
    |some z=>bif ec 4 (bf 4 z)then .yN t (bf 4 z) ok (aC x)else .bad
    |none=> .bad)
   |_,_=> .bad
 | .defer c=>match c.callee with
   | .value f=> .EA (aC f) (c.args.toList.map aC)
   |_=> .bad
 | .fieldAddr t x f=>match P.underlying t with
   |some (.struct fs)=>match fs[f]? with
    |some fd=>match P.info? fd.type with
     |some i=>bif Nat.beq i.size 0 then .bad else .fieldAddr fd.offset (aC x)
     |none=> .bad
    |none=> .bad
   |_=> .bad
 | .field t x f=>match P.underlying t with
   |some (.struct fs)=>match fs[f]? with
    |some fd=>match ja P fd.type,P.info? fd.type with
     |some true,some i=> .o6 fd.offset i.size (aC x)
     |some false,_=> .o5 fd.offset (aC x)
     |_,_=> .bad
    |none=> .bad
   |_=> .bad
 | .indexAddr t x i=>match P.underlying t with
   |some (.slice e)=>match P.info? e with|some ti=> .indexAddr ti.size (aC x) (aC i)|none=> .bad
   |some (.array n e)=>match P.info? e with|some ti=> .dD n ti.size (aC x) (aC i)|none=> .bad
   |_=> .bad
 | .index t x i=>match P.underlying t with
   |some .string=> .index (aC x) (aC i)
   |_=> .bad
 | .extract x i=> .extract (aC x) i
 | .makeSlice t l c=>match P.underlying t with
   |some (.slice e)=>match P.info? e with
    |some i=>match i.zero with
     |some z=>bif Nat.beq (bf 4 z).cells.length i.size&&(bf 4 z).known then .makeSlice e i.size i.bytes (bf 4 z) (aC l) (aC c)else .bad
     |none=> .bad
    |none=> .bad
   |_=> .bad
 | .call c=>match c.callee with
   | .value (.func f)=>bif gI P f then .call f (c.args.toList.map aC)else(match P.funcs[f]?,c.args.toList with
     |some fn,[x]=>bif fn.body.isNone&&(fn.name== "internal/abi.NoEscape" &&fn.origin== "")then .sg (aC x)
      else bif fn.body.isNone&&(fn.name== "internal/bytealg.MakeNoZero" &&fn.origin== "")then(match fn.resultTypes.toList with
       | [t]=>match P.underlying t with
         |some (.slice el)=> .lG el (aC x)
         |_=> .bad
       |_=> .bad)else .bad
     |some fn,[x,y]=>bif fn.body.isNone&&fn.origin== "" then(match xy fn.name with|some i=> .xq i (aC x) (aC y)|none=> .bad)else .bad
     |_,_=> .bad)
   | .value v=> .jt (aC v) (c.args.toList.map aC)
   | .builtin .len=>match c.args.toList,c.argTypes.toList with
     | [x],[t]=>match P.underlying t with
       |some .string=> .len true (aC x)
       |some (.slice _)=> .len false (aC x)
       |some (.map _ _)=> .Bj (aC x)
       |_=> .bad
     |_,_=> .bad
   | .builtin .cap=>match c.args.toList,c.argTypes.toList with
     | [x],[t]=>match P.underlying t with
       |some (.slice _)=> .qi (aC x)
       |_=> .bad
     |_,_=> .bad
   | .builtin .copy=>match c.args.toList,c.argTypes.toList with
     | [x,y],[t,u]=>match P.underlying t with
       |some (.slice e)=>match P.info? e with
        |some _=> .vL (aC x) (aC y)
        |none=> .bad
       |_=> .bad
     |_,_=> .bad
   | .builtin .clear=>match c.args.toList,c.argTypes.toList with
     | [x],[t]=>match P.underlying t with
       |some (.slice e)=>match P.info? e with
        |some i=>match i.zero with
         |some z=>bif Nat.beq (bf 4 z).cells.length i.size&&(bf 4 z).known then .OV i.size (bf 4 z) (aC x)else .bad
         |none=> .bad
        |none=> .bad
       |_=> .bad
     |_,_=> .bad
   | .builtin .recover=> .J1
   | .builtin .unsafeSliceData=>match c.args.toList with|[x]=> .gx (aC x)|_=> .bad
   | .builtin .unsafeString=>match c.args.toList,c.argTypes.toList with
     | [x,n],[t,_]=>match P.underlying t with
       |some (.pointer e)=>bif Nat.beq (P.cellsOf e) 1 then .ri e (aC x) (aC n)else .bad
       |_=> .bad
     |_,_=> .bad
   | .builtin .min=>match c.args.toList with|[x,y]=> .mm false (aC x) (aC y)|_=> .bad
   | .builtin .max=>match c.args.toList with|[x,y]=> .mm true (aC x) (aC y)|_=> .bad
   | .builtin .panic=>match c.args.toList with|[x]=> .panic (aC x)|_=> .bad
   | .builtin .append=>match c.args.toList,c.argTypes.toList with
     | [s,x],[t,u]=>match P.underlying t with
       |some (.slice e)=>bif pg (P.underlying u)then(match P.info? e with
        |some i=>match i.zero with
         |some z=>bif Nat.beq (bf 4 z).cells.length i.size&&(bf 4 z).known then .append e i.size i.bytes (aC s) (aC x)else .bad
         |none=> .bad
        |none=> .bad)else .bad
       |_=> .bad
     |_,_=> .bad
   |_=> .bad
 | .nilCheck x=> .aI (aC x)
 | .panic x=> .panic (aC x)
 |_=> .bad
def iF(e:Edge):Bool:=match e.ground with
 | .textOnly _=>false
 | .gcOnly _=>false
 |_=>true
def nC(n:Nat)(o:Oper):Bool:=match o.dst with
 |some d=>Nat.blt d n
 |none=>true
def bt(P:Program)(n:Nat)(ops:Array Oper)(pre:Bool)(o:Oper):aF:=
 let pr:=bif pre then o.after.toList.filterMap fun e=>bif iF e then some e.on else none else[]
 bif nC n o then(match o.guard with
 |none=>⟨o.dst,ko P o.op,none,pr⟩
 |some (j,want)=>match(ops[j]?).bind (·.dst)with
  |some t=>bif Nat.blt t n then⟨o.dst,ko P o.op,some (t,want),pr⟩else⟨none,.bad,none,[]⟩
  |none=>⟨none,.bad,none,[]⟩)else⟨none,.bad,none,[]⟩
def bW(P:Program)(n:Nat):Code->bD
 | .skip=> .skip
 | .region _ ops d=>bif d then .aQ (ops.toList.map (bt P n ops true)) [] []else .region (ops.toList.map (bt P n ops false)) []
 | .seq a b=> .seq (bW P n a) (bW P n b)
 | .cond c a b=> .cond (aC c) (bW P n a) (bW P n b)
 | .block id b=> .block id (bW P n b)
 | .loop b=> .loop (bW P n b)
 | .exit id=> .exit id
 | .ret=> .ret
 |_=> .bad
end
end Ab
