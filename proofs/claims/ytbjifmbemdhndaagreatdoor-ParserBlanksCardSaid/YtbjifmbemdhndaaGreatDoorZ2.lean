/- Parts of the proof of PParserBlanks, one behind the other, with short names. -/
import Derived.Test.YtbjifmbemdhndaaGreatDoorZ1
import Derived.Lib.Bytealg
set_option linter.unusedVariables false
set_option linter.unusedSimpArgs false
namespace Ab
open Go
noncomputable section
inductive bw where
 |tmp (t:Nat)
 |const (v:SV)
inductive EU where
 |int|str|bool
inductive pZ where
 |bI (x:bw)
 |pick (c a b:bw)
 |box (ty:TypeId) (sz:Nat) (x:bw)
 |mJ (ty:TypeId) (sz:Nat) (x:bw)
 |build (zero:List SV) (parts:List (Nat×Nat×bw))
 |buildSlice (ty:TypeId) (sz:Nat) (zero:SV) (n:Nat) (parts:List (Nat×bw))
 |bz (x:bw)
 |cx (n:Nat) (x:bw)
 |store (n:Nat) (x v:bw)
 |bin (op:BinOp) (x y:bw)
 |vv (neg:Bool) (ks:List EU) (x y:bw)
 |FO (neg:Bool) (x y:bw)
 |un (op:UnOp) (x:bw)
 |conv (k:IntKind) (x:bw)
 |qN (x:bw)
 |toStr (x:bw)
 |p4 (ty:TypeId) (x:bw)
 |dH (fn:Fn) (first captured:List bw)
 |eu (t:TypeId) (x:bw)
 |slice (sz:Nat) (x:bw) (lo hi:Option bw)
 |cJ (x:bw) (lo hi:Option bw)
 |iI (n:Nat) (x:bw) (lo hi:Option bw)
 |fieldAddr (off:Nat) (x:bw)
 |nQ (off:Nat) (x:bw)
 |qO (off n:Nat) (x:bw)
 |indexAddr (sz:Nat) (x i:bw)
 |eg (n sz:Nat) (x i:bw)
 |index (x i:bw)
 |extract (x:bw) (i:Nat)
 |len (isStr:Bool) (x:bw)
 |mm (isMax:Bool) (x y:bw)
 |makeSlice (ty:TypeId) (sz bytes:Nat) (zero:SV) (l c:bw)
 |append (ty:TypeId) (sz bytes:Nat) (s x:bw)
 |call (f:FuncId) (args:List bw)
 |lC (f:bw) (args:List bw)
 |aU (x:bw)
 |ua (x:bw)
 |mo (u:TypeId) (sz:Nat) (x:bw)
 |uf (x:bw)
 |Ar (id:Nat) (x y:bw)
 |ng (ty:TypeId) (x:bw)
 |JN (neg:Bool) (x y:bw)
 |iD (x:bw)
 |s6 (e:TypeId) (x n:bw)
 |rK (x:bw)
 |panic (x:bw)
 |s9 (x:bw)
 |xQ (x:bw)
 |qP (x:bw)
 |vw (x:bw)
 |mkMap
 |ck (isStr:Bool) (m k v:bw)
 |iJ (isStr:Bool) (zero:SV) (ok:Bool) (m k:bw)
 |CJ (x:bw)
 |As (t:TypeId) (zero:SV) (ok:Bool) (x:bw)
 |Hs (neg:Bool) (x y:bw)
 |Lo (neg:Bool) (x y:bw)
 |entry (x:bw)
 |slice3 (sz:Nat) (x:bw) (lo hi:Option bw) (mx:bw)
 |xR (x y:bw)
 |Qz (sz:Nat) (zero:SV) (x:bw)
 |Ht (f:bw) (args:List bw)
 |Lp
 |bad
structure aJ where
 dst:Option Nat
 op:pZ
 guard:Option (Nat×Bool):=none
 pre:List Nat:=[]
inductive bW where
 |skip
 |region (ops:List aJ) (forget:List Nat)
 |bq (ops:List aJ) (ord:List (Nat×Bool×List Nat)) (forget:List Nat)
 |seq (a b:bW)
 |cond (c:bw) (a b:bW)
 |block (id:Nat) (b:bW)
 |loop (b:bW)
 |exit (id:Nat)
 |ret
 |bad
inductive cQ where
 |normal|exit (id:Nat)|ret|panic (v:SV)
inductive cG where
 |ret (v:SV)|bO (v:SV)
abbrev Env:=List (Nat×SV)
def Env.get:Env->Nat->SV
 | [],_=> .undef
 |(s,v)::r,t=>bif Nat.beq s t then v else Env.get r t
def Env.put:Env->Nat->SV->Env
 | [],t,v=>[(t,v)]
 |(s,w)::r,t,v=>bif Nat.beq s t then(t,v)::r else(s,w)::Env.put r t v
def Env.drop:Env->Nat->Env
 | [],_=>[]
 |(s,w)::r,t=>bif Nat.beq s t then Env.drop r t else(s,w)::Env.drop r t
def Env.uM{α:Sort _}:Env->Nat->(SV->α)->α
 | [],_,k=>k .undef
 |(s,v)::r,t,k=> @Bool.rec (fun _=>α) (Env.uM r t k) (k v) (Nat.beq s t)
def Env.At{α:Sort _}:Env->Nat->SV->(Env->α)->α
 | [],t,v,k=>k [(t,v)]
 |(s,w)::r,t,v,k=> @Bool.rec (fun _=>α) (Env.At r t v fun r'=>k ((s,w)::r')) (k ((t,v)::r)) (Nat.beq s t)
def Env.Au{α:Sort _}:Env->Nat->(Env->α)->α
 | [],_,k=>k []
 |(s,w)::r,t,k=> @Bool.rec (fun _=>α) (Env.Au r t fun r'=>k ((s,w)::r')) (Env.Au r t k) (Nat.beq s t)
def Env.qQ{α:Sort _}:List Nat->Env->(Env->α)->α
 | [],e,k=>k e
 |t::ts,e,k=>Env.Au e t fun e'=>Env.qQ ts e' k
def ff{α:Sort _}:List (Nat×aG)->Nat->(aG->α)->α->α
 | [],_,_,d=>d
 |(s,o)::r,i,k,d=> @Bool.rec (fun _=>α) (ff r i k d) (k o) (Nat.beq s i)
def oR{α:Sort _}:List (Nat×aG)->Nat->aG->(List (Nat×aG)->α)->α
 | [],_,_,k=>k []
 |(s,o)::r,i,o',k=> @Bool.rec (fun _=>α) (oR r i o' fun r'=>k ((s,o)::r')) (k ((s,o')::r)) (Nat.beq s i)
@[reducible] def dO (b:Bool) (p:Prop):Prop:= @Bool.rec (fun _=>Prop) False p b
def bw.fu{α:Sort _}(e:Env)(x:bw)(k:SV->α):α:=match x with
 | .tmp t=>Env.uM e t k
 | .const v=>k v
def zb{α:Sort _}(e:Env):List bw->(List SV->α)->α
 | [],k=>k []
 |x::r,k=>x.fu e fun v=>zb e r fun vs=>k (v::vs)
def SV.gR(v:SV)(k:List SV->Prop):Prop:=
 match v with
 | .undef=>False
 | .agg l=>k l
 |v=>k [v]
def fT{α:Type _}:List α->Nat->Option α
 | [],_=>none
 |x::r,i=>match i with|0=>some x|i+1=>fT r i
def vz{α:Type _}:List α->Nat->α->(List α->Prop)->Prop
 | [],_,_,_=>False
 |x::r,i,v,k=>match i with|0=>k (v::r)|i+1=>vz r i v fun r'=>k (x::r')
def kM:List SV->Nat->List SV->(List SV->Prop)->Prop
 |l,_,[],k=>k l
 |l,i,v::vs,k=>vz l i v fun l'=>kM l' (i+1) vs k
def takeN:List SV->Nat->(List SV->Prop)->Prop
 |_,0,k=>k []
 | [],_+1,_=>False
 |x::r,n+1,k=>takeN r n fun r'=>k (x::r')
def oS:List SV->Nat->(List SV->Prop)->Prop
 |l,0,k=>k l
 | [],_+1,_=>False
 |_::r,n+1,k=>oS r n k
def Av:Nat->SV->(List SV->Prop)->Prop
 |0,_,k=>k []
 |n+1,v,k=>Av n v fun l=>k (v::l)
def mq(h:Heap)(p:SV)(k:List SV->Nat->Prop):Prop:=
 match p with
 | .mW v sub=>v.gR fun cs=>k cs sub
 | .dY g=>match s5 g with
   |some v=>v.gR fun cs=>k cs 0
   |none=>False
 | .ref i g idx sub=>match h with
   |⟨_,hl⟩=>ff hl i (fun o=>match o with
    | .vec g' _ elems _=>dO (Nat.beq g' g) (match fT elems idx with
     |some v=>v.gR fun cs=>k cs sub
     |none=>False)
    |_=>False) False
 |_=>False
def gx(h:Heap)(i g:Nat)(k:Prop):Prop:=match h with
 |⟨_,hl⟩=>ff hl i (fun o=>match o with
  | .vec g' _ _ _=>dO (Nat.beq g' g) k
  |_=>False) False
def vA(h:Heap)(i g:Nat)(k:Prop):Prop:=match h with
 |⟨_,hl⟩=>ff hl i (fun o=>match o with
  | .vec g' _ _ _=>dO (Nat.beq g' g) k
  | .lB g' _ _=>dO (Nat.beq g' g) k
  |_=>False) False
def Hu(h:Heap)(i g idx sub j sz:Nat)(k:SV->Prop):Prop:=match h with
 |⟨_,hl⟩=>ff hl i (fun o=>match o with
  | .vec g' sz' _ _=>dO (Nat.beq g' g) (@Bool.rec (fun _=>Prop) (k (.ref i g idx (sub+j*sz))) (k (.ref i g (idx+j) sub)) (Nat.beq sz' sz))
  |_=>False) False
def vB(w v:SV)(sub:Nat)(k:SV->Prop):Prop:=
 match w with
 | .agg cs=>v.gR fun vs=>kM cs sub vs fun cs'=>k (.agg cs')
 |_=>match v with
  | .agg _=>False
  |v=>match sub with|0=>k v|_+1=>False
def SV.known:SV->Bool
 | .undef=>false
 |_=>true
def SV.one:SV->Bool
 | .undef| .agg _| .bn _=>false
 |_=>true
def dj:List SV->Bool
 | []=>true
 |v::r=>v.one&&dj r
def vC(n:Nat)(h:Heap)(p v:SV)(k:Heap->Prop):Prop:=
 v.gR fun vs=>dO (Nat.beq vs.length n&&dj vs) (match p,h with
 | .ref i g idx sub,⟨m,hl⟩=>ff hl i (fun o=>match o with
  | .vec g' sz elems sk=>dO (Nat.beq g' g) (match fT elems idx with
    |some w=>vB w v sub fun w'=>vz elems idx w' fun elems'=>oR hl i (.vec g' sz elems' sk) fun l'=>k ⟨m,l'⟩
    |none=>False)
  |_=>False) False
 |_,_=>False)
def Lq(k k':IntKind):Bool:=match k,k' with
 | .i8,.i8| .i16,.i16| .i32,.i32| .i64,.i64| .u8,.u8| .u16,.u16| .u32,.u32| .u64,.u64=>true
 |_,_=>false
def vD(e:EU)(x y:SV):Option Bool:=match e,x,y with
 | .int,.int k a,.int k' b=>(match Lq k k' with|true=>some (a==b)|false=>none)
 | .str,.str a,.str b=>some (a==b)
 | .bool,.bool a,.bool b=>some (a==b)
 |_,_,_=>none
def dw:List EU->List SV->List SV->Option Bool
 | [],_,_=>some true
 |e::es,x::xs,y::ys=>
  match vD e x y with
  |some p=>(match es with
   | []=>some p
   |es=>(dw es xs ys).map fun q=>p&&q)
  |none=>none
 |_,_,_=>none
def kO(op:BinOp)(k:IntKind)(x y:Int):Int:=
 let a:=BitVec.ofInt k.bits x
 let b:=BitVec.ofInt k.bits y
 match op with
 | .and=>k.wrap (a &&& b).toNat
 | .or=>k.wrap (a ||| b).toNat
 | .xor=>k.wrap (a ^^^ b).toNat
 |_=>k.wrap (a &&& ~~~b).toNat
def arith(op:BinOp)(k k':IntKind)(a b:Int)(K:SV->Prop):Prop:=
 match op with
 | .shl=>dO (decide (0<=b)) (K (.int k (k.wrap (a*2^(min b.toNat k.bits)))))
 | .shr=>dO (decide (0<=b)) (K (.int k (a.fdiv (2^(min b.toNat k.bits)))))
 |op=>dO (Lq k k') (match op with
  | .add=>K (.int k (k.wrap (a+b)))
  | .sub=>K (.int k (k.wrap (a-b)))
  | .mul=>K (.int k (k.wrap (a*b)))
  | .quo=>dO (!decide (b=0)) (K (.int k (k.wrap (a.tdiv b))))
  | .rem=>dO (!decide (b=0)) (K (.int k (a.tmod b)))
  | .eql=>K (.bool (a==b))
  | .neq=>K (.bool (a !=b))
  | .lss=>K (.bool (decide (a<b)))
  | .leq=>K (.bool (decide (a<=b)))
  | .gtr=>K (.bool (decide (b<a)))
  | .geq=>K (.bool (decide (b<=a)))
  | .and=>K (.int k (kO .and k a b))
  | .or=>K (.int k (kO .or k a b))
  | .xor=>K (.int k (kO .xor k a b))
  | .andNot=>K (.int k (kO .andNot k a b))
  |_=>False)
def mw(a b:List UInt8):Bool:=Go.Op.bytesLess a b
def xS(op:BinOp)(a b:List UInt8)(K:SV->Prop):Prop:=
 match op with
 | .add=>dO (decide (a.length+b.length<=9223372036854775807)) (K (.str (a++b)))
 | .eql=>K (.bool (a==b))
 | .neq=>K (.bool (!(a==b)))
 | .lss=>K (.bool (mw a b))
 | .leq=>K (.bool (mw a b||a==b))
 | .gtr=>K (.bool (!(mw a b||a==b)))
 | .geq=>K (.bool (!mw a b))
 |_=>False
def gf(e:Env):List (Nat×Nat×bw)->List SV->(List SV->Prop)->Prop
 | [],cs,k=>k cs
 |(off,sz,x)::r,cs,k=>x.fu e fun v=>v.gR fun vs=>dO (Nat.beq vs.length sz&&Nat.ble (off+sz) cs.length) (kM cs off vs fun cs'=>gf e r cs' k)
def fF(sz:Nat)(e:Env):List (Nat×bw)->List SV->(List SV->Prop)->Prop
 | [],cs,k=>k cs
 |(i,x)::r,cs,k=>x.fu e fun v=>v.gR fun vs=>dO (Nat.beq vs.length sz) (vz cs i v fun cs'=>fF sz e r cs' k)
def gS(e:Env)(d:Int)(x:Option bw)(k:Int->Prop):Prop:=match x with
 |none=>k d
 |some y=>y.fu e fun v=>match v with| .int _ n=>k n|_=>False
structure aZ(P:Program)(f:FuncId)(args:List SV)(h:Heap)(k:cG->Heap->Prop):Prop where
 calls: ∀(c:Cx) (w:World) (xs:Array Value),cF c h w->xs.size=args.length->(∀ (i:Nat) (v:SV) (x:Value),args[i]? =some v->xs[i]? =some x->VR c h w v x)->
  Calls P f xs w fun e w'=> ∃c' h' r,k r h'/\cF c' h' w'/\Ext c h w c' h' w'/\match r with
   | .ret v=> ∃x,e= .returned x/\VR c' h' w' v x
   | .bO v=> ∃x,e= .panicked [{v:=x,recovered:=false}]/\VR c' h' w' v x
structure bZ where
 call:FuncId->List SV->Heap->(cG->Heap->Prop)->Prop
 same:SV->SV->Prop->Prop
 fin:Bool->Prop->Prop->Prop
@[reducible] def bK (P:Program):bZ:=⟨aZ P,fun v v' p=>v=v'/\p,fun _ q p=>q/\p⟩
structure bZ.Ok(P:Program)(Γ:bZ):Prop where
 call: ∀f a h k,Γ.call f a h k->aZ P f a h k
 same: ∀v v' p,Γ.same v v' p->Lk v' v/\p
 fin: ∀b q p,Γ.fin b q p->(b=true\/q)/\p
theorem rL{P:Program}:(bK P).Ok P:=⟨fun _ _ _ _ h=>h,fun _ _ _ h=>⟨h.1▸ .refl _,h.2⟩,fun _ _ _ h=>⟨.inr h.1,h.2⟩⟩
def fh(P:Program)(f:FuncId):Bool:=match P.funcs[f]? with
 |some fn=>fn.body.isSome&&fn.name != "runtime.NumGoroutine"
 |none=>false
def zc(get:Nat->SV):Nat->Nat->(List SV->Prop)->Prop
 |0,_,k=>k []
 |m+1,j,k=>zc get m (j+1) fun r=>k (get j::r)
def FP:List UInt8->(List SV->Prop)->Prop
 | [],k=>k []
 |b::r,k=>FP r fun l=>k (.int .u8 b.toNat::l)
def Hv:List SV->List SV->(List SV->Prop)->Prop
 | [],m,k=>k m
 |v::r,m,k=>Hv r m fun r'=>k (v::r')
def mK(h:Heap)(sz:Nat)(x:SV)(k:List SV->Prop):Prop:=match x with
 | .ak=>k []
 | .str s=>dO (Nat.beq sz 1) (FP s k)
 | .dm sz' n get=>dO (Nat.beq sz' sz) (zc get n 0 k)
 | .sl i g sz' off len _=>dO (Nat.beq sz' sz) (match h with
   |⟨_,hl⟩=>ff hl i (fun o=>match o with
    | .vec g' _ elems _=>dO (Nat.beq g' g) (oS elems off fun l=>takeN l len k)
    |_=>False) False)
 |_=>False
def allOnes:List SV->Bool
 | []=>true
 |v::r=>dj v.cells&&allOnes r
def joinTy:Option TypeId->TypeId->Option TypeId
 |some t,u=>bif Nat.beq t u then some u else none
 |none,_=>none
def bB(ty:TypeId)(sz bytes:Nat)(h:Heap)(s x:SV)(k:SV->Heap->Prop):Prop:=
 mK h sz x fun xs=>match xs with
 | []=>(match s with
   | .ak=>k .ak h
   | .sl i g sz' off len cap=>gx h i g (k (.sl i g sz' off len cap) h)
   | .dm sz' n get=>k (.dm sz' n get) h
   |_=>False)
 |x0::xr=>dO (allOnes (x0::xr)) (match s with
  | .ak=>dO (decide ((x0::xr).length<=9223372036854775807)&&decide ((x0::xr).length*bytes<=140737488355328)) (match h with
    |⟨m,l⟩=>k (.sl m 0 sz 0 (x0::xr).length none) ⟨m+1,(m,.vec 0 sz (x0::xr) ⟨true,some ty⟩)::l⟩)
  | .sl i g sz' off len cap=>dO (Nat.beq sz' sz) (match h with
    |⟨m,hl⟩=>ff hl i (fun o=>match o with
     | .vec g' iE elems sk=>dO (Nat.beq g' g) (match cap with
       |some cp=> @Bool.rec (fun _=>Prop)
        (dO (decide (len+(x0::xr).length<=9223372036854775807)&&decide ((len+(x0::xr).length)*bytes<=140737488355328))
         (oS elems off fun l1=>takeN l1 len fun l2=>Hv l2 (x0::xr) fun l3=>k (.sl m 0 sz 0 (len+(x0::xr).length) none) ⟨m+1,(m,.vec 0 sz l3 ⟨true,some ty⟩)::hl⟩))
        (kM elems (off+len) (x0::xr) fun elems'=>oR hl i (.vec g' iE elems' sk) fun l'=>k (.sl i g' sz off (len+(x0::xr).length) (some cp)) ⟨m,l'⟩)
        (Nat.ble (len+(x0::xr).length) cp)
       |none=> @Bool.rec (fun _=>Prop) (dO (Nat.beq off 0&&Nat.beq len elems.length&&(decide (len+(x0::xr).length<=9223372036854775807)&&decide ((len+(x0::xr).length)*bytes<=140737488355328)))
        (Hv elems (x0::xr) fun l3=>oR hl i (.vec (g'+1) iE l3 ⟨true,joinTy sk.ty ty⟩) fun l'=>k (.sl i (g'+1) sz 0 (len+(x0::xr).length) none) ⟨m,l'⟩))
        (kM elems (off+len) (x0::xr) fun elems'=>oR hl i (.vec g' iE elems' sk) fun l'=>k (.sl i g' sz off (len+(x0::xr).length) none) ⟨m,l'⟩)
        (Nat.blt 0 sz&&Nat.ble (off+len+(x0::xr).length) elems.length))
     |_=>False) False)
  |_=>False)
def mL:List SV->(List UInt8->Prop)->Prop
 | [],k=>k []
 |v::r,k=>match v with
  | .int .u8 n=>mL r fun l=>k (UInt8.ofNat n.toNat::l)
  |_=>False
def Lr(id:Nat)(s:List UInt8)(b:Int):Int:=match id with
 |0=>(Lib.countByte s b.toNat.toUInt8:Nat)
 |_=>Lib.indexByte s b.toNat.toUInt8
def ze(s:String):Option Nat:=bif s== "internal/bytealg.CountString" then some 0 else bif s== "internal/bytealg.IndexByteString" then some 1 else none
def Hw(h:Heap)(x y:SV)(k:Bool->Prop):Prop:=match x,y with
 | .fq,.fq=>k true
 | .fq,.ref i g _ _=>gx h i g (k false)
 | .ref i g _ _,.fq=>gx h i g (k false)
 | .ref i g a b,.ref i' g' a' b'=>dO (Nat.beq i i'&&Nat.beq g g'&&(Nat.beq a a'&&Nat.beq b b')) (gx h i g (k true))
 |_,_=>False
def mM:List Nat->Nat->Bool
 | [],_=>false
 |x::r,n=>bif Nat.beq x n then true else mM r n
def oo:List (SV×SV×Nat)->List Nat->List (SV×SV×Nat)
 | [],_=>[]
 |x::r,s=>bif mM s x.2.2 then oo r s else x::oo r s
def M7:List (SV×SV×Nat)->(SV->SV->Nat->Prop)->Prop
 | [],_=>True
 |x::r,p=>p x.1 x.2.1 x.2.2/\M7 r p
def Hx:List Nat->Option Nat
 | []=>none
 |x::r=>match r with
  | []=>some x
  |y::r'=>Hx (y::r')
def EV:List (SV×SV×Nat)->Nat->Option (SV×SV)
 | [],_=>none
 |x::r,n=>bif Nat.beq x.2.2 n then some (x.1,x.2.1)else EV r n
def xd(isStr:Bool)(k:SV):Bool:=match isStr,k with
 |true,.str _=>true
 |false,.int _ _=>true
 |_,_=>false
def xT(a b:SV):Option Bool:=match a,b with
 | .str s,.str t=>some (s==t)
 | .int k n,.int k' m=>(match Lq k k' with|true=>some (n==m)|false=>none)
 |_,_=>none
def qz(k:SV):List (SV×SV×Nat)->Nat->(Option (Nat×SV)->Prop)->Prop
 | [],_,K=>K none
 |(a,v,_)::r,i,K=>match xT k a with
  |some b=> @Bool.rec (fun _=>Prop) (qz k r (i+1) K) (K (some (i,v))) b
  |none=>False
def FQ:List (SV×SV×Nat)->Nat->SV->SV->List (SV×SV×Nat)
 | [],_,_,_=>[]
 |(a,w,s)::r,i,k,v=>match i with
  |0=>(k,v,s)::r
  |i+1=>(a,w,s)::FQ r i k v
def Hy(o:Option TypeId)(t:TypeId):Bool:=match o with
 |some u=>Nat.beq u t
 |none=>false
def bR(P:Program)(Γ:bZ)(o:pZ)(e:Env)(h:Heap)(k:SV->Heap->Prop)(kp:SV->Heap->Prop):Prop:=
 match o with
 | .bI x=>x.fu e fun v=>k v h
 | .pick c a b=>c.fu e fun c=>match c with
   | .bool x=>a.fu e fun va=>b.fu e fun vb=> @Bool.rec (fun _=>Prop) (k vb h) (k va h) x
   |_=>False
 | .box ty sz x=>x.fu e fun v=>v.gR fun vs=>dO (Nat.beq vs.length sz) (match h with
   |⟨n,l⟩=>k (.ref n 0 0 0) ⟨n+1,(n,.vec 0 sz [v] ⟨false,some ty⟩)::l⟩)
 | .mJ ty sz x=>x.fu e fun v=>match v,h with
   | .agg cs,⟨n,l⟩=>dO (dj cs&&Nat.beq cs.length sz) (k (.ref n 0 0 0) ⟨n+1,(n,.vec 0 1 cs ⟨false,some ty⟩)::l⟩)
   |_,_=>False
 | .build zero parts=>gf e parts zero fun cs=>k (.agg cs) h
 | .buildSlice ty sz zero n parts=>Av n zero fun z=>fF sz e parts z fun cs=>match h with
   |⟨m,l⟩=>k (.sl m 0 sz 0 n (some n)) ⟨m+1,(m,.vec 0 sz cs ⟨false,some ty⟩)::l⟩
 | .bz x=>x.fu e fun x=>mq h x fun cs sub=>match fT cs sub with|some v=>k v h|none=>False
 | .cx n x=>x.fu e fun x=>mq h x fun cs sub=>oS cs sub fun cs=>takeN cs n fun l=>k (.agg l) h
 | .store n x v=>x.fu e fun x=>v.fu e fun v=>vC n h x v fun h'=>k (.bn []) h'
 | .bin op x y=>x.fu e fun x=>y.fu e fun y=>match x,y with
   | .int kk a,.int k' b=>arith op kk k' a b fun v=>k v h
   | .str a,.str b=>xS op a b fun v=>k v h
   |_,_=>False
 | .FO neg x y=>x.fu e fun x=>y.fu e fun y=>match x,y with
   | .bool a,.bool b=> @Bool.rec (fun _=>Prop) (k (.bool (a==b)) h) (k (.bool (!(a==b))) h) neg
   |_,_=>False
 | .vv neg ks x y=>x.fu e fun x=>y.fu e fun y=>match x,y with
   | .agg a,.agg b=>match dw ks a b with
     |some p=> @Bool.rec (fun _=>Prop) (k (.bool p) h) (k (.bool (!p)) h) neg
     |none=>False
   |_,_=>False
 | .un op x=>x.fu e fun x=>match op,x with
   | .not,.bool b=>k (.bool (!b)) h
   | .neg,.int kk n=>k (.int kk (kk.wrap (0-n))) h
   | .xor,.int kk n=>k (.int kk (kO .xor kk (if kk.signed then -1 else kk.max) n)) h
   |_,_=>False
 | .conv kk x=>x.fu e fun x=>match x with
   | .int _ n=>k (.int kk (kk.wrap n)) h
   |_=>False
 | .qN x=>x.fu e fun x=>match x with
   | .str s=>k (.str s) h
   |_=>False
 | .toStr x=>x.fu e fun x=>match x with
   | .str _=>False
   |x=>mK h 1 x fun xs=>mL xs fun bs=>k (.str bs) h
 | .p4 ty x=>x.fu e fun x=>match x with
   | .str s=>FP s fun xs=>match h with
     |⟨m,l⟩=>k (.sl m 0 1 0 s.length none) ⟨m+1,(m,.vec 0 1 xs ⟨true,some ty⟩)::l⟩
   |_=>False
 | .dH fn a b=>zb e a fun a=>zb e b fun b=>k (.func fn a b) h
 | .eu t x=>x.fu e fun v=>k (.iface t v) h
 | .slice sz x lo hi=>x.fu e fun x=>match x with
   | .dm sz' n get=>dO (Nat.beq sz' sz) (gS e 0 lo fun l=>gS e n hi fun hh=>
     dO (decide (0<=l)&&decide (l<=hh)&&decide (hh<=n)) (k (.dm sz' (hh.toNat-l.toNat) fun i=>get (l.toNat+i)) h))
   | .sl i g sz' off len cap=>dO (Nat.beq sz' sz) (gx h i g (gS e 0 lo fun l=>gS e len hi fun hh=>
     dO (decide (0<=l)&&decide (l<=hh)) (match cap with
      |some c=>dO (decide (hh<=c)) (k (.sl i g sz' (off+l.toNat) (hh.toNat-l.toNat) (some (c-l.toNat))) h)
      |none=>dO (decide (hh<=len)) (k (.sl i g sz' (off+l.toNat) (hh.toNat-l.toNat) none) h))))
   | .ak=>gS e 0 lo fun l=>gS e 0 hi fun hh=>dO (decide (l=0)&&decide (hh=0)) (k .ak h)
   |_=>False
 | .cJ x lo hi=>x.fu e fun x=>match x with
   | .str s=>gS e 0 lo fun l=>gS e s.length hi fun hh=>
     dO (decide (0<=l)&&decide (l<=hh)&&decide (hh<=s.length)) (k (.str ((s.drop l.toNat).take (hh.toNat-l.toNat))) h)
   |_=>False
 | .iI n x lo hi=>x.fu e fun x=>match x,h with
   | .ref i g idx sub,⟨m,hl⟩=>ff hl i (fun o=>match o with
     | .vec g' sz elems _=>dO (Nat.beq g' g&&(Nat.beq sub 0&&(Nat.beq sz 1&&Nat.ble (idx+n) elems.length))) (gS e 0 lo fun l=>gS e n hi fun hh=>
      dO (decide (0<=l)&&decide (l<=hh)&&decide (hh<=n)) (k (.sl i g 1 (idx+l.toNat) (hh.toNat-l.toNat) (some (n-l.toNat))) ⟨m,hl⟩))
     |_=>False) False
   |_,_=>False
 | .fieldAddr off x=>x.fu e fun x=>match x with
   | .ref i g idx sub=>gx h i g (k (.ref i g idx (sub+off)) h)
   | .mW v sub=>k (.mW v (sub+off)) h
   |_=>False
 | .nQ off x=>x.fu e fun x=>match x with
   | .agg cs=>match fT cs off with|some v=>k v h|none=>False
   |_=>False
 | .qO off n x=>x.fu e fun x=>match x with
   | .agg cs=>oS cs off fun cs=>takeN cs n fun l=>k (.agg l) h
   |_=>False
 | .indexAddr sz x i=>x.fu e fun x=>i.fu e fun i=>match x,i with
   | .dm sz' n get,.int _ j=>dO (Nat.beq sz' sz) (dO (decide (0<=j)&&decide (j<n)) (k (.mW (get j.toNat) 0) h))
   | .sl i g sz' off len _,.int _ j=>dO (Nat.beq sz' sz) (gx h i g (dO (decide (0<=j)&&decide (j<len)) (k (.ref i g (off+j.toNat) 0) h)))
   |_,_=>False
 | .eg n sz x i=>x.fu e fun x=>i.fu e fun i=>match x,i with
   | .ref i g idx sub,.int _ j=>dO (decide (0<=j)&&decide (j<n)) (Hu h i g idx sub j.toNat sz fun v=>k v h)
   | .dY g,.int _ j=>dO (decide (0<=j)&&decide (j<n)) (match s5 g with
     |some v=>k (.mW v (0+j.toNat*sz)) h
     |none=>False)
   | .mW v sub,.int _ j=>dO (decide (0<=j)&&decide (j<n)) (k (.mW v (sub+j.toNat*sz)) h)
   |_,_=>False
 | .index x i=>x.fu e fun x=>i.fu e fun i=>match x,i with
   | .str s,.int _ j=>dO (decide (0<=j)&&decide (j<s.length)) (k (.int .u8 (s.getD j.toNat 0).toNat) h)
   |_,_=>False
 | .extract x i=>x.fu e fun x=>match x with
   | .bn l=>match fT l i with|some v=>k v h|none=>False
   |_=>False
 | .len isStr x=>x.fu e fun x=>match isStr,x with
   |true,.str s=>k (.int .i64 s.length) h
   |false,.dm _ n _=>k (.int .i64 n) h
   |false,.sl i g _ _ n _=>vA h i g (k (.int .i64 n) h)
   |false,.ak=>k (.int .i64 0) h
   |_,_=>False
 | .mm isMax x y=>x.fu e fun x=>y.fu e fun y=>match x,y with
   | .int kk a,.int _ b=> @Bool.rec (fun _=>Prop) (k (.int kk (if b<a then b else a)) h) (k (.int kk (if a<b then b else a)) h) isMax
   |_,_=>False
 | .makeSlice ty sz bytes zero l c=>l.fu e fun l=>c.fu e fun c=>match l,c with
   | .int _ n,.int _ c=>dO (decide (0<=n)&&decide (n<=c)&&decide (bytes*c<=140737488355328)&&decide (c<=9223372036854775807)) (match h with
     |⟨m,hl⟩=>k (.sl m 0 sz 0 n.toNat (some c.toNat)) ⟨m+1,(m,.vec 0 sz (List.replicate c.toNat zero) ⟨false,some ty⟩)::hl⟩)
   |_,_=>False
 | .append ty sz bytes s x=>s.fu e fun s=>x.fu e fun x=>bB ty sz bytes h s x k
 | .call f args=>zb e args fun a=>Γ.call f a h fun r h'=>match r with
   | .ret v=>k v h'
   | .bO v=>kp v h'
 | .lC f args=>f.fu e fun f=>match f with
   | .func (.func f) first cap=>dO (fh P f) (zb e args fun a=>Γ.call f (first++(a++cap)) h fun r h'=>match r with
     | .ret v=>k v h'
     | .bO v=>kp v h')
   |_=>False
 | .aU x=>x.fu e fun x=>match x with
   | .ref i g idx sub=>gx h i g (k (.ref i g idx sub) h)
   | .mW v sub=>k (.mW v sub) h
   | .dY g=>k (.dY g) h
   |_=>False
 | .ua x=>x.fu e fun x=>match x,h with
   | .fq,h=>k .fq h
   | .ref i g idx sub,⟨m,hl⟩=>ff hl i (fun o=>match o with
     | .vec g' sz elems _=>dO (Nat.beq g' g&&(Nat.blt idx elems.length&&Nat.blt sub sz)) (k (.ref i g' idx sub) ⟨m,hl⟩)
     |_=>False) False
   |_,_=>False
 | .mo u Wv x=>x.fu e fun x=>match x,h with
   | .fq,h=>k .fq h
   | .ref i g idx sub,⟨m,hl⟩=>ff hl i (fun o=>match o with
     | .vec g' sz elems sk=>dO (Nat.beq g' g&&(Nat.beq idx 0&&Nat.beq sub 0)&&(Nat.beq sz Wv&&Nat.beq elems.length 1)&&(!sk.fE&&Hy sk.ty u)) (k (.ref i g' 0 0) ⟨m,hl⟩)
     |_=>False) False
   |_,_=>False
 | .uf x=>x.fu e fun v=>k v h
 | .Ar id x y=>x.fu e fun x=>y.fu e fun y=>match x,y with
   | .str s,.int .u8 b=>k (.int .i64 (Lr id s b)) h
   |_,_=>False
 | .ng ty x=>x.fu e fun x=>match x,h with
   | .int .i64 n,⟨m,l⟩=>dO (decide (0<=n)&&decide (n<=140737488355328)) (k (.sl m 0 1 0 n.toNat none) ⟨m+1,(m,.vec 0 1 [] ⟨true,some ty⟩)::l⟩)
   |_,_=>False
 | .JN neg x y=>x.fu e fun x=>y.fu e fun y=>Hw h x y fun b=> @Bool.rec (fun _=>Prop) (k (.bool b) h) (k (.bool (!b)) h) neg
 | .iD x=>x.fu e fun x=>match x with
   | .ak=>k .fq h
   | .sl i g _ off len _=>dO (Nat.blt 0 len) (vA h i g (k (.ref i g off 0) h))
   |_=>False
 | .s6 et x n=>x.fu e fun x=>n.fu e fun n=>match x,n,h with
   | .fq,.int .i64 n,h=>dO (decide (n=0)) (k (.str []) h)
   | .ref i g idx sub,.int .i64 n,⟨m,hl⟩=>ff hl i (fun o=>match o with
     | .vec g' sz elems sk=>dO (Nat.beq g' g&&(Nat.beq idx 0&&Nat.beq sub 0)&&(Nat.beq sz 1&&Hy sk.ty et)&&(decide (0<n)&&decide (n<=9223372036854775807)))
      (takeN elems n.toNat fun xs=>mL xs fun bs=>oR hl i (.lB g' et xs) fun hl'=>k (.str bs) ⟨m,hl'⟩)
     | .lB g' ty elems=>dO (Nat.beq g' g&&(Nat.beq idx 0&&Nat.beq sub 0)&&Nat.beq ty et&&(decide (0<n)&&decide (n<=9223372036854775807)))
      (takeN elems n.toNat fun xs=>mL xs fun bs=>oR hl i (.lB g' et elems) fun hl'=>k (.str bs) ⟨m,hl'⟩)
     |_=>False) False
   |_,_,_=>False
 | .rK x=>x.fu e fun x=>match x with
   | .ak=>k (.int .i64 0) h
   | .sl i g _ _ _ (some c)=>gx h i g (k (.int .i64 c) h)
   |_=>False
 | .panic x=>x.fu e fun x=>match x with
   | .iface t v=>kp (.iface t v) h
   |_=>False
 | .s9 x=>x.fu e fun x=>match x,h with
   | .str s,⟨n,l⟩=>k (.ref n 0 0 0) ⟨n+1,(n,.iter s 0)::l⟩
   |_,_=>False
 | .xQ x=>x.fu e fun x=>match x,h with
   | .ref i g idx sub,⟨m,hl⟩=>dO (Nat.beq g 0&&(Nat.beq idx 0&&Nat.beq sub 0)) (ff hl i (fun o=>match o with
     | .iter s pos=> @Bool.rec (fun _=>Prop) (k (.bn [.bool false]) ⟨m,hl⟩)
      (match Utf8.decode ⟨s.toArray⟩ pos with
       |(c,wd)=>oR hl i (.iter s (pos+wd)) fun l'=>k (.bn [.bool true,.int .i64 pos,.int .i32 c]) ⟨m,l'⟩) (Nat.blt pos s.length)
     |_=>False) False)
   |_,_=>False
 | .qP x=>x.fu e fun x=>match x,h with
   | .fZ,⟨n,l⟩=>k (.ref n 0 0 0) ⟨n+1,(n,.cP .fZ 0 [] 0)::l⟩
   | .dR i g,⟨n,hl⟩=>ff hl i (fun o=>match o with
     | .map _ cl=>dO (Nat.beq g 0) (k (.ref n 0 0 0) ⟨n+1,(n,.cP (.dR i g) cl [] cl)::hl⟩)
     |_=>False) False
   |_,_=>False
 | .vw x=>x.fu e fun x=>match x,h with
   | .ref j g _ sub,⟨n,hl⟩=>dO (Nat.beq g 0&&Nat.beq sub 0) (ff hl j (fun o=>match o with
     | .cP m since seen stepped=>(match m with
       | .dR i g'=>dO (Nat.beq g' 0) (ff hl i (fun o=>match o with
         | .map es cl=>dO (Nat.ble since stepped&&es.all fun x=>Nat.blt x.2.2 since&&(eP 4 x.1&&eP 4 x.2.1))
           (match oo es seen with
            | []=>k (.bn [.bool false]) ⟨n,hl⟩
            |x::r=>M7 (x::r) fun kk v born=>oR hl j (.cP (.dR i g') since (seen++[born]) cl) fun l'=>k (.bn [.bool true,kk,v]) ⟨n,l'⟩)
         |_=>False) False)
       |_=>False)
     |_=>False) False)
   |_,_=>False
 | .entry x=>x.fu e fun x=>match x,h with
   | .ref j g _ sub,⟨n,hl⟩=>dO (Nat.beq g 0&&Nat.beq sub 0) (ff hl j (fun o=>match o with
     | .cP m _ seen stepped=>(match m with
       | .dR i g'=>dO (Nat.beq g' 0) (ff hl i (fun o=>match o with
         | .map es cl=>dO (Nat.beq cl stepped&&es.all fun x=>eP 4 x.1&&eP 4 x.2.1)
           (match Hx seen with
            |some s=>(match EV es s with
             |some (kk,v)=>k (.bn [kk,v]) ⟨n,hl⟩
             |none=>False)
            |none=>False)
         |_=>False) False)
       |_=>False)
     |_=>False) False)
   |_,_=>False
 | .mkMap=>match h with
   |⟨n,l⟩=>k (.dR n 0) ⟨n+1,(n,.map [] 0)::l⟩
 | .ck isStr m kk v=>m.fu e fun m=>kk.fu e fun kk=>v.fu e fun v=>match m,h with
   | .dR i g,⟨n,hl⟩=>ff hl i (fun o=>match o with
     | .map es cl=>dO (Nat.beq g 0&&(xd isStr kk&&eP 4 v)) (qz kk es 0 fun r=>match r with
       |some (j,_)=>oR hl i (.map (FQ es j kk v) cl) fun l'=>k (.bn []) ⟨n,l'⟩
       |none=>oR hl i (.map (es++[(kk,v,cl)]) (cl+1)) fun l'=>k (.bn []) ⟨n,l'⟩)
     |_=>False) False
   |_,_=>False
 | .iJ isStr zero ok m kk=>m.fu e fun m=>kk.fu e fun kk=>match m,h with
   | .fZ,h=>dO (xd isStr kk) (@Bool.rec (fun _=>Prop) (k zero h) (k (.bn [zero,.bool false]) h) ok)
   | .dR i g,⟨n,hl⟩=>ff hl i (fun o=>match o with
     | .map es _=>dO (Nat.beq g 0&&xd isStr kk) (qz kk es 0 fun r=>match r with
       |some (_,v)=> @Bool.rec (fun _=>Prop) (k v ⟨n,hl⟩) (k (.bn [v,.bool true]) ⟨n,hl⟩) ok
       |none=> @Bool.rec (fun _=>Prop) (k zero ⟨n,hl⟩) (k (.bn [zero,.bool false]) ⟨n,hl⟩) ok)
     |_=>False) False
   |_,_=>False
 | .CJ x=>x.fu e fun x=>match x,h with
   | .fZ,h=>k (.int .i64 0) h
   | .dR i g,⟨n,hl⟩=>ff hl i (fun o=>match o with
     | .map es _=>dO (Nat.beq g 0) (k (.int .i64 es.length) ⟨n,hl⟩)
     |_=>False) False
   |_,_=>False
 | .As t zero ok x=>x.fu e fun x=>match x with
   | .iface u v=> @Bool.rec (fun _=>Prop) (@Bool.rec (fun _=>Prop) False (k (.bn [zero,.bool false]) h) ok) (@Bool.rec (fun _=>Prop) (k v h) (k (.bn [v,.bool true]) h) ok) (Nat.beq u t)
   | .dZ=> @Bool.rec (fun _=>Prop) False (k (.bn [zero,.bool false]) h) ok
   |_=>False
 | .Hs neg x y=>x.fu e fun x=>y.fu e fun y=>match x,y with
   | .dZ,.dZ=> @Bool.rec (fun _=>Prop) (k (.bool true) h) (k (.bool false) h) neg
   | .dZ,.iface _ _=> @Bool.rec (fun _=>Prop) (k (.bool false) h) (k (.bool true) h) neg
   | .iface _ _,.dZ=> @Bool.rec (fun _=>Prop) (k (.bool false) h) (k (.bool true) h) neg
   |_,_=>False
 | .Lo neg x y=>x.fu e fun x=>y.fu e fun y=>match x,y with
   | .ak,.ak=> @Bool.rec (fun _=>Prop) (k (.bool true) h) (k (.bool false) h) neg
   | .ak,.sl i g _ _ _ _=>gx h i g (@Bool.rec (fun _=>Prop) (k (.bool false) h) (k (.bool true) h) neg)
   | .sl i g _ _ _ _,.ak=>gx h i g (@Bool.rec (fun _=>Prop) (k (.bool false) h) (k (.bool true) h) neg)
   | .ak,.dm _ n _=>dO (Nat.blt 0 n) (@Bool.rec (fun _=>Prop) (k (.bool false) h) (k (.bool true) h) neg)
   | .dm _ n _,.ak=>dO (Nat.blt 0 n) (@Bool.rec (fun _=>Prop) (k (.bool false) h) (k (.bool true) h) neg)
   |_,_=>False
 | .slice3 sz x lo hi mx=>x.fu e fun x=>match x with
   | .dm sz' n get=>dO (Nat.beq sz' sz) (gS e 0 lo fun l=>gS e n hi fun hh=>gS e 0 (some mx) fun mm=>
     dO (decide (0<=l)&&decide (l<=hh)&&(decide (hh<=mm)&&decide (mm<=n))) (k (.dm sz' (hh.toNat-l.toNat) fun i=>get (l.toNat+i)) h))
   | .sl i g sz' off len cap=>dO (Nat.beq sz' sz) (gx h i g (gS e 0 lo fun l=>gS e len hi fun hh=>gS e 0 (some mx) fun mm=>
     dO (decide (0<=l)&&decide (l<=hh)&&(decide (hh<=mm)&&decide (mm<=match cap with|some c=>c|none=>len)))
      (k (.sl i g sz' (off+l.toNat) (hh.toNat-l.toNat) (some (mm.toNat-l.toNat))) h)))
   | .ak=>gS e 0 lo fun l=>gS e 0 hi fun hh=>gS e 0 (some mx) fun mm=>dO (decide (l=0)&&(decide (hh=0)&&decide (mm=0))) (k .ak h)
   |_=>False
 | .xR x y=>x.fu e fun x=>y.fu e fun y=>match x,y with
   | .ak,.ak=>k (.int .i64 0) h
   | .sl i g _ _ _ _,.ak=>gx h i g (k (.int .i64 0) h)
   |_,_=>False
 | .Qz sz zero x=>x.fu e fun x=>match x with
   | .ak=>k (.bn []) h
   | .sl i g sz' off len _=>dO (Nat.beq sz' sz) (match h with
     |⟨m,hl⟩=>ff hl i (fun o=>match o with
      | .vec g' iE elems sk=>dO (Nat.beq g' g) (Av len zero fun zs=>dO (allOnes zs) (kM elems off zs fun elems'=>oR hl i (.vec g' iE elems' sk) fun l'=>k (.bn []) ⟨m,l'⟩))
      |_=>False) False)
   |_=>False
 | .Ht _ _=>False
 | .Lp=>False
 | .bad=>False
def nh(e:Env)(d:Option Nat)(v:SV)(k:Env->Prop):Prop:=match d with
 |some t=>Env.At e t v k
 |none=>k e
def fU(e:Env)(g:Option (Nat×Bool))(run:Env->Prop)(skip:Env->Prop):Prop:=match g with
 |none=>run e
 |some (t,want)=>Env.uM e t fun g=>match g with
  | .bool x=> @Bool.rec (fun _=>Prop)
   (Env.At e t (.bool false) fun e=> @Bool.rec (fun _=>Prop) (run e) (skip e) want)
   (Env.At e t (.bool true) fun e=> @Bool.rec (fun _=>Prop) (skip e) (run e) want) x
  | .bn _=>skip e
  |_=>False
def M8(P:Program)(Γ:bZ)(l:List aJ):Env->Heap->(Env->Heap->Prop)->(SV->Env->Heap->Prop)->Prop:=
 @List.rec aJ (fun _=>Env->Heap->(Env->Heap->Prop)->(SV->Env->Heap->Prop)->Prop) (fun e h k _=>k e h)
  (fun o _ ih e h k kp=>fU e o.guard
   (fun e=>bR P Γ o.op e h (fun v h'=>nh e o.dst v fun e'=>ih e' h' k kp) (fun v h'=>kp v e h'))
   (fun e=>nh e o.dst (.bn []) fun e'=>ih e' h k kp)) l
def rM(eq:SV->SV->Bool):List SV->List SV->Bool
 | [],[]=>true
 |a::r,b::s=>eq a b&&rM eq r s
 |_,_=>false
def oF:Nat->SV->SV->Bool
 |0,_,_=>false
 |n+1,a,b=>match a,b with
  | .bool a,.bool b=>a==b
  | .int k a,.int k' b=>Lq k k'&&decide (a=b)
  | .str s,.str t=>decide (s=t)
  | .fq,.fq=>true
  | .ref i g x y,.ref i' g' x' y'=>Nat.beq i i'&&(Nat.beq g g'&&(Nat.beq x x'&&Nat.beq y y'))
  | .dY g,.dY g'=>Nat.beq g g'
  | .ak,.ak=>true
  | .sl i g a b c none,.sl i' g' a' b' c' none=>Nat.beq i i'&&(Nat.beq g g'&&(Nat.beq a a'&&(Nat.beq b b'&&Nat.beq c c')))
  | .sl i g a b c (some d),.sl i' g' a' b' c' (some d')=>Nat.beq i i'&&(Nat.beq g g'&&(Nat.beq a a'&&(Nat.beq b b'&&(Nat.beq c c'&&Nat.beq d d'))))
  | .jc,.jc=>true
  | .dZ,.dZ=>true
  | .fZ,.fZ=>true
  | .dR i g,.dR i' g'=>Nat.beq i i'&&Nat.beq g g'
  | .iface t v,.iface t' v'=>Nat.beq t t'&&oF n v v'
  | .agg l,.agg l'=>rM (oF n) l l'
  | .bn l,.bn l'=>rM (oF n) l l'
  |_,_=>false
def Hz(p:Nat->Bool):Nat->Bool
 |0=>true
 |n+1=>p n&&Hz p n
def mz(p:SV->SV->Bool):List SV->List SV->Bool
 | [],[]=>true
 |a::r,b::s=>p a b&&mz p r s
 |_,_=>false
def EW:Nat->SV->SV->Bool
 |0,_,_=>false
 |n+1,a,b=>match a,b with
  | .dm sz m g,.dm sz' m' g'=>Nat.beq sz sz'&&(Nat.beq m m'&&Hz (fun j=>EW n (g j) (g' j)) m)
  | .agg l,.agg l'=>mz (EW n) l l'
  | .bn l,.bn l'=>mz (EW n) l l'
  | .iface t v,.iface t' v'=>Nat.beq t t'&&EW n v v'
  | .undef,.undef=>true
  | .mW v s,.mW v' s'=>Nat.beq s s'&&EW n v v'
  | .func (.func f) x y,.func (.func f') x' y'=>Nat.beq f f'&&(rM (oF n) x x'&&rM (oF n) y y')
  |a,b=>oF (n+1) a b
def JY(e':Env):Env->Bool
 | []=>true
 |(t,v)::r=>EW 8 v (Env.get e' t)&&JY e' r
def EX:List Nat->List Nat->Bool
 | [],[]=>true
 |a::r,b::s=>Nat.beq a b&&EX r s
 |_,_=>false
def JZ:List (SV×SV×Nat)->List (SV×SV×Nat)->Bool
 | [],[]=>true
 |a::r,b::s=>oF 8 a.1 b.1&&(oF 8 a.2.1 b.2.1&&(Nat.beq a.2.2 b.2.2&&JZ r s))
 |_,_=>false
def HA:aG->aG->Bool
 | .vec g sz es sk,.vec g' sz' es' J0=>Nat.beq g g'&&(Nat.beq sz sz'&&(mz (EW 8) es es'&&(sk.fE==J0.fE&&(match sk.ty,J0.ty with
   |none,none=>true
   |some t,some t'=>Nat.beq t t'
   |_,_=>false))))
 | .iter s p,.iter s' p'=>decide (s=s')&&Nat.beq p p'
 | .map es c,.map es' c'=>Nat.beq c c'&&JZ es es'
 | .cP m a b c,.cP m' a' b' c'=>oF 8 m m'&&(Nat.beq a a'&&(EX b b'&&Nat.beq c c'))
 | .lB g t xs,.lB g' t' xs'=>Nat.beq g g'&&(Nat.beq t t'&&rM (oF 8) xs xs')
 |_,_=>false
def SR:List (Nat×aG)->List (Nat×aG)->Bool
 | [],[]=>true
 |(i,o)::r,(j,p)::s=>Nat.beq i j&&(HA o p&&SR r s)
 |_,_=>false
def u0(o:aJ):Bool:=match o.op with
 | .buildSlice _ _ _ _ _=>(match o.guard with
   |none=>(match o.dst with|some _=>true|none=>false)
   |some _=>false)
 |_=>false
def oT(P:Program)(Γ:bZ)(ops:List aJ)(l:List Nat):Env->Heap->Prop->Prop:=
 @List.rec Nat (fun _=>Env->Heap->Prop->Prop) (fun _ _ p=>p)
  (fun j _ ih e h p=>match fT ops j with
   |none=>False
   |some o=> @Bool.rec (fun _=>Prop) (ih e h p) (bR P Γ o.op e h (fun _ _=>ih e h p) (fun _ _=>False)) (u0 o)) l
theorem Aw(P:Program)(Γ:bZ)(ops:List aJ)(j:Nat)(r:List Nat)(e:Env)(h:Heap)(p:Prop):oT P Γ ops (j::r) e h p=match fT ops j with
 |none=>False
 |some o=> @Bool.rec (fun _=>Prop) (oT P Γ ops r e h p) (bR P Γ o.op e h (fun _ _=>oT P Γ ops r e h p) (fun _ _=>False)) (u0 o):=rfl
def nR(P:Program)(Γ:bZ)(ops:List aJ)(l:List Nat):Env->Heap->Prop->Prop:=
 @List.rec Nat (fun _=>Env->Heap->Prop->Prop) (fun _ _ p=>p)
  (fun j _ ih e h p=>match fT ops j with
   |none=>False
   |some o=> @Bool.rec (fun _=>Prop) (fU e o.guard
    (fun e=>bR P Γ o.op e h (fun v _=>match o.dst with|some t=>Env.uM e t fun v'=>Γ.same v v' (ih e h p)|none=>ih e h p) (fun _ _=>False))
    (fun e=>ih e h p)) (ih e h p) (u0 o)) l
theorem Ax(P:Program)(Γ:bZ)(ops:List aJ)(j:Nat)(r:List Nat)(e:Env)(h:Heap)(p:Prop):nR P Γ ops (j::r) e h p=match fT ops j with
 |none=>False
 |some o=> @Bool.rec (fun _=>Prop) (fU e o.guard
  (fun e=>bR P Γ o.op e h (fun v _=>match o.dst with|some t=>Env.uM e t fun v'=>Γ.same v v' (nR P Γ ops r e h p)|none=>nR P Γ ops r e h p) (fun _ _=>False))
  (fun e=>nR P Γ ops r e h p)) (nR P Γ ops r e h p) (u0 o):=rfl
def eD(P:Program)(Γ:bZ)(o:aJ)(e:Env)(h:Heap)(K:Env->Heap->Prop):Prop:=
 fU e o.guard (fun e=>bR P Γ o.op e h (fun v h'=>nh e o.dst v fun e'=>K e' h') (fun _ _=>False)) (fun e=>nh e o.dst (.bn []) fun e'=>K e' h)
def FR(P:Program)(Γ:bZ)(ops:List aJ):List Nat->Env->Heap->(Env->Heap->Prop)->Prop
 | [],e,h,K=>K e h
 |i::r,e,h,K=>match fT ops i with
  |none=>False
  |some o=>eD P Γ o e h fun e' h'=>FR P Γ ops r e' h' K
def oG:List Nat->Nat->List Nat
 | [],_=>[]
 |j::r,i=>bif Nat.beq j i then oG r i else j::oG r i
def cz:List Nat->List Nat->Bool
 | [],_=>true
 |k::r,rem=>(bif mM rem k then false else true)&&cz r rem
def ug:List Nat->(Nat->Prop->Prop)->Prop->Prop
 | [],_,p=>p
 |i::r,f,p=>f i (ug r f p)
def gT(P:Program)(Γ:bZ)(ops:List aJ)(l8:Env->Heap->Prop->Prop):Nat->List Nat->Env->Heap->Prop->Prop
 |0,rem,e,h,p=>match rem with
  | []=>l8 e h p
  |_::_=>False
 |n+1,rem,e,h,p=>match rem with
  | []=>l8 e h p
  |x::r=>ug (x::r) (fun i q=>match fT ops i with
   |none=>False
   |some o=> @Bool.rec (fun _=>Prop) q (eD P Γ o e h fun e' h'=>gT P Γ ops l8 n (oG (x::r) i) e' h' q) (cz o.pre (x::r))) p
theorem gG(P:Program)(Γ:bZ)(ops:List aJ)(l8:Env->Heap->Prop->Prop)(n x:Nat)(r:List Nat)(e:Env)(h:Heap)(p:Prop):gT P Γ ops l8 (n+1) (x::r) e h p=ug (x::r) (fun i q=>match fT ops i with
 |none=>False
 |some o=> @Bool.rec (fun _=>Prop) q (eD P Γ o e h fun e' h'=>gT P Γ ops l8 n (oG (x::r) i) e' h' q) (cz o.pre (x::r))) p:=rfl
def vE(e':Env):Env->Prop
 | []=>True
 |(t,v)::r=>Env.get e' t=v/\vE e' r
def Ls(e1:Env)(h1:Heap)(e2:Env)(h2:Heap):Bool:=JY e2 e1&&(Nat.beq h2.dB h1.dB&&SR h1.l h2.l)
def vF(P:Program)(Γ:bZ)(ops:List aJ)(T:List Nat)(e:Env)(h:Heap)(k:Env->Heap->Prop):Prop:=
 FR P Γ ops T e h fun e1 h1=>gT P Γ ops (fun e' h' p=>Γ.fin (Ls e1 h1 e' h') (vE e' e1/\h1=h') p) T.length T e h (k e1 h1)
def lD(P:Program)(Γ:bZ)(ops:List aJ)(l:List (Nat×Bool×List Nat)):Env->Heap->(Env->Heap->Prop)->(SV->Env->Heap->Prop)->Prop:=
 @List.rec (Nat×Bool×List Nat) (fun _=>Env->Heap->(Env->Heap->Prop)->(SV->Env->Heap->Prop)->Prop) (fun e h k _=>k e h)
  (fun x r ih e h k kp=>match x with
   |(i,_,again)=> @Bool.rec (fun _=>Prop) (match fT ops i with
    |none=>False
    |some o=>oT P Γ ops again e h (fU e o.guard
     (fun e=>bR P Γ o.op e h (fun v h'=>nh e o.dst v fun e'=>nR P Γ ops again e' h' (ih e' h' k kp)) (fun v h'=>kp v [] h'))
     (fun e=>nh e o.dst (.bn []) fun e'=>ih e' h k kp))) (vF P Γ ops (i::r.map fun y=>y.1) e h k) (mM again i)) l
theorem CK(P:Program)(Γ:bZ)(ops:List aJ)(i:Nat)(b:Bool)(again:List Nat)(r:List (Nat×Bool×List Nat))(e:Env)(h:Heap)(k:Env->Heap->Prop)(kp:SV->Env->Heap->Prop)(hm:mM again i=true):
  lD P Γ ops ((i,b,again)::r) e h k kp=vF P Γ ops (i::r.map fun y=>y.1) e h k:=by
 show@Bool.rec (fun _=>Prop) _ (vF P Γ ops (i::r.map fun y=>y.1) e h k) (mM again i)=_;rw[hm]
theorem jd(P:Program)(Γ:bZ)(ops:List aJ)(i:Nat)(b:Bool)(again:List Nat)(r:List (Nat×Bool×List Nat))(e:Env)(h:Heap)(k:Env->Heap->Prop)(kp:SV->Env->Heap->Prop)(hm:mM again i=false):
  lD P Γ ops ((i,b,again)::r) e h k kp=match fT ops i with
   |none=>False
   |some o=>oT P Γ ops again e h (fU e o.guard
    (fun e=>bR P Γ o.op e h (fun v h'=>nh e o.dst v fun e'=>nR P Γ ops again e' h' (lD P Γ ops r e' h' k kp)) (fun v h'=>kp v [] h'))
    (fun e=>nh e o.dst (.bn []) fun e'=>lD P Γ ops r e' h k kp)):=by
 show@Bool.rec (fun _=>Prop) (match fT ops i with
      |none=>False
      |some o=>oT P Γ ops again e h (fU e o.guard
       (fun e=>bR P Γ o.op e h (fun v h'=>nh e o.dst v fun e'=>nR P Γ ops again e' h' (lD P Γ ops r e' h' k kp)) (fun v h'=>kp v [] h'))
       (fun e=>nh e o.dst (.bn []) fun e'=>lD P Γ ops r e' h k kp))) _ (mM again i)=_
 rw[hm]
def bH:Nat->Value->SV
 |0,_=> .undef
 |n+1,v=>match v with
  | .bool b=> .bool b
  | .int k m=> .int k m
  | .string s=> .str s.data.toList
  | .pointer none=> .fq
  | .slice none 0 0=> .ak
  | .nilFunc=> .jc
  | .nilIface=> .dZ
  | .map none=> .fZ
  | .iface t v=> .iface t (bH n v)
  | .agg cs=> .agg (cs.toList.map (bH n))
  | .tuple cs=> .bn (cs.toList.map (bH n))
  |_=> .undef
def aK:Operand->bw
 | .tmp t=> .tmp t
 | .const v=> .const (bH 4 v)
 | .global g=> .const (.dY g)
 | .func f=> .const (.func (.func f) [] [])
def kN(P:Program)(t:TypeId):Option Bool:=match P.underlying t with
 |some (.struct _)|some (.array _ _)=>some true
 |some _=>some false
 |none=>none
def kR(P:Program):Nat->List Field->Option (List EU)
 |_,[]=>some []
 |n,f::r=>bif f.name != "_" &&Nat.beq f.offset n then(match P.underlying f.type with
  |some (.int _)=>(kR P (n+1) r).map (.int:: ·)
  |some .string=>(kR P (n+1) r).map (.str:: ·)
  |some .bool=>(kR P (n+1) r).map (.bool:: ·)
  |_=>none)else none
def gy(P:Program):Nat->List Field->Option (List EU)
 |_,[]=>some []
 |n,f::r=>bif f.name != "_" &&Nat.beq f.offset n then(match P.underlying f.type with
  |some (.int _)=>(gy P (n+1) r).map (.int:: ·)
  |some .string=>(gy P (n+1) r).map (.str:: ·)
  |some .bool=>(gy P (n+1) r).map (.bool:: ·)
  |some (.struct gs)=>bif P.stoodInHeld f.type then none else(match kR P 0 gs.toList,P.info? f.type with
   |some ks,some i=>bif Nat.beq i.size ks.length then(gy P (n+ks.length) r).map (ks++ ·)else none
   |_,_=>none)
  |_=>none)else none
def qR:Option TypeDesc->Bool
 |some (.slice _)|some .string=>true
 |_=>false
def isConst:Operand->Bool
 | .const _=>true
 |_=>false
def FT(P:Program)(t:TypeId):Option Bool:=match P.underlying t with
 |some .string=>some true
 |some (.int _)=>some false
 |_=>none
def FU(P:Program)(t:TypeId):Bool:=match P.underlying t with
 |some (.array _ e)=>(match P.info? e with|some i=>Nat.beq i.size 1|none=>false)
 |_=>false
def l9(P:Program)(o:Op):pZ:=match o with
 | .move x| .assign x=> .bI (aK x)
 | .pick c a b=> .pick (aK c) (aK a) (aK b)
 | .alloc t=>match P.info? t with
   |some i=>match i.zero with|some z=>bif FU P t then .mJ t i.size (.const (bH 4 z))else .box t i.size (.const (bH 4 z))|none=> .bad
   |none=> .bad
 | .box t x=>match P.info? t with|some i=>bif FU P t then .mJ t i.size (aK x)else .box t i.size (aK x)|none=> .bad
 | .build t ps=>match P.underlying t,P.info? t with
   |some (.struct fs),some i=>match i.zero with
    |some z=>bif !((bH 4 z).known&&fs.toList.all fun f=>(P.info? f.type).isSome)then .bad else match ps.toList.mapM fun(j,x)=>(fs[j]?).bind fun f=>(P.info? f.type).map fun g=>(f.offset,g.size,aK x)with
     |some l=> .build (bH 4 z).cells l
     |none=> .bad
    |none=> .bad
   |_,_=> .bad
 | .buildSlice t n ps=>match P.underlying t with
   |some (.slice e)=>match P.info? e with
    |some i=>match i.zero with
     |some z=>bif Nat.ble (n*i.size) 16777216&&(Nat.beq (bH 4 z).cells.length i.size&&(bH 4 z).known)then .buildSlice e i.size (bH 4 z) n (ps.toList.map fun(j,x)=>(j,aK x))else .bad
     |none=> .bad
    |none=> .bad
   |_=> .bad
 | .load t x=>match kN P t,P.info? t with
   |some true,some i=> .cx i.size (aK x)
   |some false,_=> .bz (aK x)
   |_,_=> .bad
 | .store t x v=>match P.info? t with|some i=> .store i.size (aK x) (aK v)|none=> .bad
 | .binOp op t x y _=>match P.underlying t with
   |some (.int _)|some .string=> .bin op (aK x) (aK y)
   |some .bool=>match op with
    | .eql=> .FO false (aK x) (aK y)
    | .neq=> .FO true (aK x) (aK y)
    |_=> .bad
   |some (.pointer e)=>(match P.info? e,op with
    |some i,.eql=>bif Nat.beq i.size 0 then .bad else .JN false (aK x) (aK y)
    |some i,.neq=>bif Nat.beq i.size 0 then .bad else .JN true (aK x) (aK y)
    |_,_=> .bad)
   |some (.slice _)=>(match op with
    | .eql=> .Lo false (aK x) (aK y)
    | .neq=> .Lo true (aK x) (aK y)
    |_=> .bad)
   |some (.interface _)=>bif isConst x||isConst y then(match op with
    | .eql=> .Hs false (aK x) (aK y)
    | .neq=> .Hs true (aK x) (aK y)
    |_=> .bad)else .bad
   |some (.struct fs)=>bif !P.stoodInHeld t&& !P.eqGuardType P.depth t then(match gy P 0 fs.toList,op with
    |some ks,.eql=> .vv false ks (aK x) (aK y)
    |some ks,.neq=> .vv true ks (aK x) (aK y)
    |_,_=> .bad)else .bad
   |_=> .bad
 | .unOp u _ x=> .un u (aK x)
 | .convert s d x=>match P.underlying s,P.underlying d with
   |some (.int _),some (.int k)=> .conv k (aK x)
   |some .string,some .string=> .qN (aK x)
   |some (.slice e),some .string=>(match P.underlying e,P.info? e with
    |some (.int .u8),some i=>bif Nat.beq i.size 1 then .toStr (aK x)else .bad
    |_,_=> .bad)
   |some (.pointer u),some .unsafePointer=>(match P.info? u with
    |some i=>bif Nat.beq i.size 0 then .bad else .ua (aK x)
    |none=> .bad)
   |some .unsafePointer,some (.pointer u)=>(match P.info? u with
    |some i=>bif !Nat.beq i.size 0&&(Nat.beq (P.cellsOf u) i.size&&liesAt P P.depth u 1 0 u 1)then .mo u i.size (aK x)else .bad
    |none=> .bad)
   |some .string,some (.slice e)=>(match P.underlying e,P.info? e with
    |some (.int .u8),some i=>bif Nat.beq i.size 1 then .p4 e (aK x)else .bad
    |_,_=> .bad)
   |_,_=> .bad
 | .makeFunc fn a b=> .dH fn (a.toList.map aK) (b.toList.map aK)
 | .makeInterface t x=>match P.underlying t with
   |some (.interface _)=> .bad
   |some _=> .eu t (aK x)
   |none=> .bad
 | .slice t x lo hi none=>match P.underlying t with
   |some (.slice e)=>match P.info? e with|some i=> .slice i.size (aK x) (lo.map aK) (hi.map aK)|none=> .bad
   |some .string=> .cJ (aK x) (lo.map aK) (hi.map aK)
   |some (.array n e)=>(match P.info? e with|some i=>bif Nat.beq i.size 1 then .iI n (aK x) (lo.map aK) (hi.map aK)else .bad|none=> .bad)
   |_=> .bad
 | .slice t x lo (some hi) (some m)=>match P.underlying t with
   |some (.slice e)=>match P.info? e with|some i=> .slice3 i.size (aK x) (lo.map aK) (some (aK hi)) (aK m)|none=> .bad
   |_=> .bad
 | .range t x=>match P.underlying t with
   |some .string=> .s9 (aK x)
   |some (.map _ _)=> .qP (aK x)
   |_=> .bad
 | .next x true=> .xQ (aK x)
 | .next x false=> .vw (aK x)
 | .entry x=> .entry (aK x)
 | .makeMap _ none=> .mkMap
 | .mapUpdate t m k v| .insert t m k v=>match P.underlying t with
   |some (.map kt _)=>(match FT P kt with|some b=> .ck b (aK m) (aK k) (aK v)|none=> .bad)
   |_=> .bad
 | .lookup t m k ok=>match P.underlying t with
   |some (.map kt e)=>(match P.info? e with
    |some i=>match i.zero with
     |some z=>(match FT P kt with|some b=>bif eP 4 (bH 4 z)then .iJ b (bH 4 z) ok (aK m) (aK k)else .bad|none=> .bad)
     |none=> .bad
    |none=> .bad)
   |_=> .bad
 | .typeAssert x _ t ok=>match P.underlying t,P.info? t with
   |some (.interface _),_=> .bad
   |some _,some i=>(match i.zero with
    |some z=>bif eP 4 (bH 4 z)then .As t (bH 4 z) ok (aK x)else .bad
    |none=> .bad)
   |_,_=> .bad
 | .defer c=>match c.callee with
   | .value f=> .Ht (aK f) (c.args.toList.map aK)
   |_=> .bad
 | .fieldAddr t x f=>match P.underlying t with
   |some (.struct fs)=>match fs[f]? with
    |some fd=>match P.info? fd.type with
     |some i=>bif Nat.beq i.size 0 then .bad else .fieldAddr fd.offset (aK x)
     |none=> .bad
    |none=> .bad
   |_=> .bad
 | .field t x f=>match P.underlying t with
   |some (.struct fs)=>match fs[f]? with
    |some fd=>match kN P fd.type,P.info? fd.type with
     |some true,some i=> .qO fd.offset i.size (aK x)
     |some false,_=> .nQ fd.offset (aK x)
     |_,_=> .bad
    |none=> .bad
   |_=> .bad
 | .indexAddr t x i=>match P.underlying t with
   |some (.slice e)=>match P.info? e with|some ti=> .indexAddr ti.size (aK x) (aK i)|none=> .bad
   |some (.array n e)=>match P.info? e with|some ti=> .eg n ti.size (aK x) (aK i)|none=> .bad
   |_=> .bad
 | .index t x i=>match P.underlying t with
   |some .string=> .index (aK x) (aK i)
   |_=> .bad
 | .extract x i=> .extract (aK x) i
 | .makeSlice t l c=>match P.underlying t with
   |some (.slice e)=>match P.info? e with
    |some i=>match i.zero with
     |some z=>bif Nat.beq (bH 4 z).cells.length i.size&&(bH 4 z).known then .makeSlice e i.size i.bytes (bH 4 z) (aK l) (aK c)else .bad
     |none=> .bad
    |none=> .bad
   |_=> .bad
 | .call c=>match c.callee with
   | .value (.func f)=>bif fh P f then .call f (c.args.toList.map aK)else(match P.funcs[f]?,c.args.toList with
     |some fn,[x]=>bif fn.body.isNone&&(fn.name== "internal/abi.NoEscape" &&fn.origin== "")then .uf (aK x)
      else bif fn.body.isNone&&(fn.name== "internal/bytealg.MakeNoZero" &&fn.origin== "")then(match fn.resultTypes.toList with
       | [t]=>match P.underlying t with
         |some (.slice el)=> .ng el (aK x)
         |_=> .bad
       |_=> .bad)else .bad
     |some fn,[x,y]=>bif fn.body.isNone&&fn.origin== "" then(match ze fn.name with|some i=> .Ar i (aK x) (aK y)|none=> .bad)else .bad
     |_,_=> .bad)
   | .value v=> .lC (aK v) (c.args.toList.map aK)
   | .builtin .len=>match c.args.toList,c.argTypes.toList with
     | [x],[t]=>match P.underlying t with
       |some .string=> .len true (aK x)
       |some (.slice _)=> .len false (aK x)
       |some (.map _ _)=> .CJ (aK x)
       |_=> .bad
     |_,_=> .bad
   | .builtin .cap=>match c.args.toList,c.argTypes.toList with
     | [x],[t]=>match P.underlying t with
       |some (.slice _)=> .rK (aK x)
       |_=> .bad
     |_,_=> .bad
   | .builtin .copy=>match c.args.toList,c.argTypes.toList with
     | [x,y],[t,u]=>match P.underlying t with
       |some (.slice e)=>match P.info? e with
        |some _=> .xR (aK x) (aK y)
        |none=> .bad
       |_=> .bad
     |_,_=> .bad
   | .builtin .clear=>match c.args.toList,c.argTypes.toList with
     | [x],[t]=>match P.underlying t with
       |some (.slice e)=>match P.info? e with
        |some i=>match i.zero with
         |some z=>bif Nat.beq (bH 4 z).cells.length i.size&&(bH 4 z).known then .Qz i.size (bH 4 z) (aK x)else .bad
         |none=> .bad
        |none=> .bad
       |_=> .bad
     |_,_=> .bad
   | .builtin .recover=> .Lp
   | .builtin .unsafeSliceData=>match c.args.toList with|[x]=> .iD (aK x)|_=> .bad
   | .builtin .unsafeString=>match c.args.toList,c.argTypes.toList with
     | [x,n],[t,_]=>match P.underlying t with
       |some (.pointer e)=>bif Nat.beq (P.cellsOf e) 1 then .s6 e (aK x) (aK n)else .bad
       |_=> .bad
     |_,_=> .bad
   | .builtin .min=>match c.args.toList with|[x,y]=> .mm false (aK x) (aK y)|_=> .bad
   | .builtin .max=>match c.args.toList with|[x,y]=> .mm true (aK x) (aK y)|_=> .bad
   | .builtin .panic=>match c.args.toList with|[x]=> .panic (aK x)|_=> .bad
   | .builtin .append=>match c.args.toList,c.argTypes.toList with
     | [s,x],[t,u]=>match P.underlying t with
       |some (.slice e)=>bif qR (P.underlying u)then(match P.info? e with
        |some i=>match i.zero with
         |some z=>bif Nat.beq (bH 4 z).cells.length i.size&&(bH 4 z).known then .append e i.size i.bytes (aK s) (aK x)else .bad
         |none=> .bad
        |none=> .bad)else .bad
       |_=> .bad
     |_,_=> .bad
   |_=> .bad
 | .nilCheck x=> .aU (aK x)
 | .panic x=> .panic (aK x)
 |_=> .bad
def kj(e:Edge):Bool:=match e.ground with
 | .textOnly _=>false
 | .gcOnly _=>false
 |_=>true
def oU(n:Nat)(o:Oper):Bool:=match o.dst with
 |some d=>Nat.blt d n
 |none=>true
def bP(P:Program)(n:Nat)(ops:Array Oper)(pre:Bool)(o:Oper):aJ:=
 let pr:=bif pre then o.after.toList.filterMap fun e=>bif kj e then some e.on else none else[]
 bif oU n o then(match o.guard with
 |none=>⟨o.dst,l9 P o.op,none,pr⟩
 |some (j,want)=>match(ops[j]?).bind (·.dst)with
  |some t=>bif Nat.blt t n then⟨o.dst,l9 P o.op,some (t,want),pr⟩else⟨none,.bad,none,[]⟩
  |none=>⟨none,.bad,none,[]⟩)else⟨none,.bad,none,[]⟩
def cR(P:Program)(n:Nat):Code->bW
 | .skip=> .skip
 | .region _ ops d=>bif d then .bq (ops.toList.map (bP P n ops true)) [] []else .region (ops.toList.map (bP P n ops false)) []
 | .seq a b=> .seq (cR P n a) (cR P n b)
 | .cond c a b=> .cond (aK c) (cR P n a) (cR P n b)
 | .block id b=> .block id (cR P n b)
 | .loop b=> .loop (cR P n b)
 | .exit id=> .exit id
 | .ret=> .ret
 |_=> .bad
end
end Ab
