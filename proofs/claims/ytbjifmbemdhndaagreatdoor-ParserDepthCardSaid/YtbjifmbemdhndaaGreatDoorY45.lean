/- Parts of the proof of PParserDepth, one behind the other, with short names. -/
import Derived.Test.YtbjifmbemdhndaaGreatDoorY44
import Derived.Test.YtbjifmbemdhndaaGreatDoorY38
import Derived.Test.YtbjifmbemdhndaaGreatDoorY21
import Derived.Test.YtbjifmbemdhndaaGreatDoorY33
import Derived.Test.YtbjifmbemdhndaaGreatDoorY28
set_option linter.unusedVariables false
set_option linter.unusedSimpArgs false
namespace Go.Proofs.YtbjifmbemdhndaaGreatDoor
open Ab Go.RowKit
set_option maxRecDepth 100000
set_option maxHeartbeats 4000000
attribute [local irreducible] aO bx
def K6:List (Nat×bR):=[(21,t21),(20,t20)]
theorem JS:fm Tryz.prog K6:= .cons Kx (.cons PT .nil)
theorem Nu{args:List SV}{h:Heap}{R:bV->Heap->Prop}(hn:Nat.ble args.length t7.nt=true)
  (hp:uU Tryz.prog (si Tryz.prog) (dx Tryz.prog) t7.code (FD Tryz.prog (HV Tryz.prog K6 (si Tryz.prog) (dx Tryz.prog)) t7.rs R) (eL 0 args) h []):aP Tryz.prog 7 args h R:=
 SM.K2 lI (fun _ _ _ _ h=>h) (pY mixed JS lI fun _ _ _ _ h=>h) mixed hn hp
def kn(l:List TP)(m:Nat):Ex×Int×Nat:=match(lu (aX l) (sM cN) l.length 40).expr 0 with
 | .bad er j=>(xY,er,eN l m j)
 | .ok x j=>if j<l.length then(xY,240,eN l m j)else(x,0,0)
def w9(s:List UInt8):SV:=match mI s with
 | .error (er,a)=> .aN [kq xY,l7 er a]
 | .ok l=> .aN [kq (kn l s.length).1,l7 (kn l s.length).2.1 (kn l s.length).2.2]
theorem FI{l:List TP}{m e i:Nat}(h: ¬i<l.length):dj Tryz.prog 23 [] (gQ l i m e) (.ret (.aN [])) (gQ l i m e):=by
 refine⟨aV,ai ..,ai ..,.aN (by simp),G7.call mixed rfl ?_⟩;have hd:decide ((i:Int)<(l.length:Int))=false:=decide_eq_false (by omega);iterate 12 all_goals ((try conv=>whnf);try first|(with_reducible first|refine zY ?_|refine zN ?_|refine zT ?_|refine br (fun _=> ?_) (fun _=> ?_)|refine⟨rfl,?_⟩))
 exact cO (.lit (.aN (by simp))) rfl
theorem Ib{l:List TP}{m e i:Nat}(h:i<l.length):dj Tryz.prog 23 [] (gQ l i m e) (.cZ (rR 240 (eN l m i))) (gQ l i m e):=by
 refine⟨aV,ai ..,ai ..,av ..,G7.call mixed rfl ?_⟩;have hd:decide ((i:Int)<(l.length:Int))=true:=decide_eq_true (by omega);have c:=ij (l:=l) (m:=m) (e:=e) 240 i;iterate 12 all_goals ((try conv=>whnf);try first|(with_reducible first|refine zY ?_|refine zN ?_|refine zT ?_|refine br (fun _=> ?_) (fun _=> ?_)|refine⟨rfl,?_⟩)|(refine c.cZ rfl fun h=> ?_))
 exact cI (av _ _)
theorem Nv(l:List TP): ∀(Im:Nat->Prop) (w:World) (x:Value),VP Im w (Jn (.ok l)) x->VP Im w (.aN [Ao l,l7 0 0]) x:=by
 intro Im w x h;cases l with
 |cons _ _=>exact h
 |nil=>
  cases h with
  |aN _ cs hl hh=>
   refine .aN _ cs hl fun i v x a b=> ?_
   match i with
   |0=>
    simp at a;subst a;have:=hh 0 .ak x rfl b;cases this
    exact .nu ..
   |i+1=>exact hh (i+1) v x a b
theorem tA{A:Heap}{a b a' b':SV}(h:cA A a a')(k:cA A b b'):cA A (.aN [a,b]) (.aN [a',b']):= .aN rfl fun i u u' h1 h2=>by
 match i with
 |0=>simp at h1 h2;subst h1;subst h2;exact h
 |1=>simp at h1 h2;subst h1;subst h2;exact k
 |i+2=>simp at h1
theorem tB(e a:Int):bA (l7 e a):= .agg (by simp only[List.mem_cons,List.not_mem_nil,or_false];rintro _ (rfl|rfl)<;>constructor)
theorem xb{s:List UInt8}(hs:s.length<=65536):au Tryz.prog 7 [.str s] (w9 s):=by
 refine bu (bK (.str _)) (Nu rfl ?_);have cl:=Eh hs;unfold w9;cases hl:mI s with
 |error p=>
  obtain⟨er,a⟩:=p;rw[hl]at cl;dsimp only[Jn]at cl
  have h1:(!(fun q=>er==0&&q) ((a:Int)==0))=true:=by
   have h0:=mP _ _ _ _ _ hl;have:(er==0)=false:=beq_eq_false_iff_ne.2 h0;show(!(er==0&&_))=true;rw[this];rfl
  iterate 30 all_goals ((try conv=>whnf);try first|(with_reducible first|refine zY ?_|refine zN ?_|refine zT ?_|refine br (fun _=> ?_) (fun _=> ?_)|refine⟨rfl,?_⟩|refine au.call (cl) ?_))
  exact⟨_,rfl,tA (mO ki:cA _ _ (kq xY)) (.lit (tB _ _))⟩
 |ok l=>
  rw[hl]at cl;have L5:l.length<=65536:=Nat.le_trans (Fw (kK _ _ _ _ (Nat.le_refl _) hl)) hs;have hL:=(Ia (l:=l) (m:=s.length) L5 40 0 rfl).expr;dsimp only;cases hf:(lu (aX l) (sM cN) l.length 40).expr 0 with
  |bad er j=>
   have c:=hL.bad (Nat.zero_le _) hf;rw[show kn l s.length=(xY,er,eN l s.length j) by unfold kn;rw[hf]];iterate 60 all_goals ((try conv=>whnf);try first|(with_reducible first|refine zY ?_|refine zN ?_|refine zT ?_|refine br (fun _=> ?_) (fun _=> ?_)|refine⟨rfl,?_⟩)|(refine cl.less (l8 _) (Nv l) ?_)|(refine c.Qu rfl ?_))
   all_goals exact⟨_,rfl,tA (mO ki:cA _ _ (kq xY)) (.lit (tB _ _))⟩
  |ok x j=>
   have c:=hL.ok (Nat.zero_le _) hf;obtain⟨op,v,tb,nm,slot,kd,args⟩:=x;rw[aB]at c;by_cases hj:j<l.length
   ·rw[show kn l s.length=(xY,240,eN l s.length j) by unfold kn;rw[hf];exact if_pos hj]
    have cn:=Ib (m:=s.length) (e:=0) hj;iterate 60 all_goals ((try conv=>whnf);try first|(with_reducible first|refine zY ?_|refine zN ?_|refine zT ?_|refine br (fun _=> ?_) (fun _=> ?_)|refine⟨rfl,?_⟩)|(refine cl.less (l8 _) (Nv l) ?_)|(refine c.call rfl ?_)|(refine cn.Qu rfl ?_))
    all_goals exact⟨_,rfl,tA (mO ki:cA _ _ (kq xY)) (.lit (tB _ _))⟩
   ·rw[show kn l s.length=(.mk op v tb nm slot kd args,0,0) by unfold kn;rw[hf];exact if_neg hj]
    have cn:=FI (m:=s.length) (e:=0) hj;iterate 60 all_goals ((try conv=>whnf);try first|(with_reducible first|refine zY ?_|refine zN ?_|refine zT ?_|refine br (fun _=> ?_) (fun _=> ?_)|refine⟨rfl,?_⟩)|(refine cl.less (l8 _) (Nv l) ?_)|(refine c.call rfl ?_)|(refine cn.call rfl ?_))
    all_goals exact⟨_,rfl,tA (.lit (aq (.mk op v tb nm slot kd args))) (.lit (tB _ _))⟩
end Go.Proofs.YtbjifmbemdhndaaGreatDoor
namespace Go.Proofs.YtbjifmbemdhndaaGreatDoor
section
@[reducible] def Ex.op:Ex->Int| .mk o _ _ _ _ _ _=>o
@[reducible] def Ex.va:Ex->Va| .mk _ v _ _ _ _ _=>v
@[reducible] def Ex.tb:Ex->List UInt8| .mk _ _ t _ _ _ _=>t
@[reducible] def Ex.nm:Ex->List UInt8| .mk _ _ _ n _ _ _=>n
@[reducible] def Ex.slot:Ex->Int| .mk _ _ _ _ s _ _=>s
@[reducible] def Ex.kd:Ex->Int| .mk _ _ _ _ _ k _=>k
@[reducible] def Ex.args:Ex->List Ex| .mk _ _ _ _ _ _ a=>a
structure Tb where
 all:Bool
 x:Ex
 nm:List UInt8
structure Src where
 tb:List UInt8
 nm:List UInt8
 Ic:Ex
structure Ord where
 x:Ex
 desc:Bool
structure Ip where
 nm:List UInt8
 kd:Int
 nn:Bool
structure WM where
 nm:List UInt8
 x:Ex
 slot:Int
structure Sm where
 kind:Int
 name:List UInt8:=[]
 PF:List UInt8:=[]
 Q2:List Ip:=[]
 key:List (List UInt8):=[]
 uniq:Bool:=false
 names:List (List UInt8):=[]
 rows:List (List Ex):=[]
 items:List Tb:=[]
 UE:List Src:=[]
 wh:Ex:=xY
 group:List Ex:=[]
 order:List Ord:=[]
 limit:Int:=0
 sets:List WM:=[]
def CA{α:Type}(T:ke)(len:Nat)(one:Nat->cH α):Nat->List α->Nat->cH (List α)
 |0,_,i=> .bad (if i<len then 3 else 240) i
 |f+1,acc,i=>(one i).then fun x j=>if fM T [44] j then CA T len one f (acc++[x]) (j+1)else .ok (acc++[x]) j
section
variable (T:ke) (len:Nat) (bB:List UInt8->Bool) (expr:Nat->cH Ex)
def WO(i:Nat):cH (List UInt8):=if fM T [97,115] i then kM T bB (i+1)else .ok [] i
def JT(Ic:Bool)(i:Nat):cH Src:=(kM T bB i).then fun t j=>(WO T bB j).then fun a k=>
 if Ic then(dX T [111,110] k).then fun _ q=>(expr q).then fun x p=> .ok ⟨t,a,x⟩ p else .ok ⟨t,a,xY⟩ k
def Ev:Nat->List Src->Nat->cH (List Src)
 |0,acc,i=>if fM T [106,111,105,110] i then .bad (if i+1<len then 3 else 240) (i+1)else .ok acc i
 |f+1,acc,i=>if fM T [106,111,105,110] i then(JT T bB expr true (i+1)).then fun s j=>Ev f (acc++[s]) j else .ok acc i
def kindOf(t:List UInt8):Option Int:=if t==[105,110,116]then some 2 else if t==[116,101,120,116]then some 3 else if t==[98,111,111,108]then some 1 else none
def JU(i:Nat):cH Ip:=(kM T bB i).then fun n j=>match(if(T j).k=1 then kindOf (T j).t else none)with
 |none=> .bad 240 j
 |some k=>if fM T [110,111,116] (j+1)then(dX T [110,117,108,108] (j+2)).then fun _ q=> .ok ⟨n,k,true⟩ q else .ok ⟨n,k,false⟩ (j+1)
def CB:Nat->List Ip->Nat->cH (List Ip)
 |0,acc,i=>if fM T [112,114,105,109,97,114,121] i then .ok acc (i+1)else .bad (if i<len then 3 else 240) i
 |f+1,acc,i=>if(0<acc.length)&&fM T [112,114,105,109,97,114,121] i then .ok acc (i+1)else(JU T bB i).then fun c j=>(dX T [44] j).then fun _ k=>CB f (acc++[c]) k
end
end
end Go.Proofs.YtbjifmbemdhndaaGreatDoor
namespace Go.Proofs.YtbjifmbemdhndaaGreatDoor
open Ab Go.RowKit
set_option maxRecDepth 100000
set_option maxHeartbeats 4000000
attribute [local irreducible] aO bx
section
@[reducible] def FJ:aA:=tE 67
@[reducible] def rowOf (sz:Nat) (l:List SV):SV:= .eR sz l.length fun i=>l.getD i .undef
variable {l:List TP} {m e:Nat} {α:Type}
structure Q3(fl:Bool)(f:FuncId)(l:List TP)(m e:Nat)(tgt:SV->aA)(ty:TypeId)(sz:Nat)(one:Nat->cH α)(sv:α->SV):Prop where
 tok:wX tgt
 WQ:gI Tryz.prog f=true
 lit: ∀x,bA (sv x)
 lt: ∀ {i j x},one i= .ok x j->i<=l.length->j<=l.length
 E: ∀ {i j x},i<=l.length->one i= .ok x j->aP Tryz.prog f (aT fl) ⟨3,[(2,tgt .ak),(1,FJ),(0,gQ l i m e)]⟩ fun r h'=>r= .ret (.aN [])/\h'=⟨4,[(3,.vec 0 sz [sv x] ⟨true,some ty⟩),(2,tgt (.sl 3 0 sz 0 1 none)),(1,FJ),(0,gQ l j m e)]⟩
 Eb: ∀ {i j er},i<=l.length->one i= .bad er j->aP Tryz.prog f (aT fl) ⟨3,[(2,tgt .ak),(1,FJ),(0,gQ l i m e)]⟩ fun r h'=>r= .cZ (rR er (eN l m j))
 L: ∀ {i j x g} {xs:List α},i<=l.length->xs.length<=1000->one i= .ok x j->aP Tryz.prog f (aT fl) ⟨4,[(3,.vec g sz (xs.map sv) ⟨true,some ty⟩),(2,tgt (.sl 3 g sz 0 xs.length none)),(1,FJ),(0,gQ l i m e)]⟩ fun r h'=>r= .ret (.aN [])/\
  h'=⟨4,[(3,.vec (g+1) sz ((xs++[x]).map sv) ⟨true,some ty⟩),(2,tgt (.sl 3 (g+1) sz 0 (xs.length+1) none)),(1,FJ),(0,gQ l j m e)]⟩
 Lb: ∀ {i j er g} {xs:List α},i<=l.length->xs.length<=1000->one i= .bad er j->aP Tryz.prog f (aT fl) ⟨4,[(3,.vec g sz (xs.map sv) ⟨true,some ty⟩),(2,tgt (.sl 3 g sz 0 xs.length none)),(1,FJ),(0,gQ l i m e)]⟩ fun r h'=>r= .cZ (rR er (eN l m j))
inductive OS(l:List TP)(one:Nat->cH α)(most:Nat)(r:cH (List α)) where
 |E (i:Nat) (hi:i<=l.length) (h:CA (aX l) l.length one most [] i=r)
 |L (g:Nat) (xs:List α) (f i:Nat) (hf:xs.length+f=most) (h0:0<xs.length) (hi:i<=l.length) (h:CA (aX l) l.length one f xs i=r)
@[reducible] def OS.env {one:Nat->cH α} {most:Nat} {r:cH (List α)} (fl:Bool) (g:FuncId):OS l one most r->Env
  | .E .. =>[(0,.ref 0 0 0 0),(1,.int .i64 most),(2,.func (.func g) [] (aT fl)),(6,.int .i64 0)]
  | .L _ xs .. =>[(0,.ref 0 0 0 0),(1,.int .i64 most),(2,.func (.func g) [] (aT fl)),(6,.int .i64 ((xs.length:Nat):Int))]
@[reducible] def OS.hp {one:Nat->cH α} {most:Nat} {r:cH (List α)} (m e:Nat) (tgt:SV->aA) (ty:TypeId) (sz:Nat) (sv:α->SV):OS l one most r->Heap
  | .E i .. =>⟨3,[(2,tgt .ak),(1,FJ),(0,gQ l i m e)]⟩
  | .L g xs _ i .. =>⟨4,[(3,.vec g sz (xs.map sv) ⟨true,some ty⟩),(2,tgt (.sl 3 g sz 0 xs.length none)),(1,FJ),(0,gQ l i m e)]⟩
def OS.mu{one:Nat->cH α}{most:Nat}{r:cH (List α)}:OS l one most r->Nat
 | .E .. =>most+1
 | .L _ _ f .. =>f
@[reducible] def box (a:Nat):aA:= .vec 0 1 [.ref a 0 0 0] ⟨false,some 67⟩
end
end Go.Proofs.YtbjifmbemdhndaaGreatDoor
namespace Go.Proofs.YtbjifmbemdhndaaGreatDoor
open Ab Go.RowKit
set_option maxRecDepth 100000
@[reducible] def Tc (x:Ex):List SV:=[.int .u8 x.op,.int .u8 x.va.k,.int .i64 x.va.i,.str x.va.s,.str x.tb,.str x.nm,.int .i64 x.slot,.int .u8 x.kd,gF (eP x.args)]
theorem Q4(x:Ex):kq x= .agg (Tc x):=by cases x;rw[kq]
theorem Ew(x:Ex): ∀a∈Tc x,bA a:=by
 simp only[List.mem_cons,List.not_mem_nil,or_false];rintro _ (rfl|rfl|rfl|rfl|rfl|rfl|rfl|rfl|rfl)<;>constructor
@[reducible] def WR (x:Tb):SV:= .agg [.bool x.all,.int .u8 x.x.op,.int .u8 x.x.va.k,.int .i64 x.x.va.i,.str x.x.va.s,.str x.x.tb,.str x.x.nm,.int .i64 x.x.slot,.int .u8 x.x.kd,gF (eP x.x.args),.str x.nm]
@[reducible] def UF (x:Src):SV:= .agg [.str x.tb,.str x.nm,.int .u8 x.Ic.op,.int .u8 x.Ic.va.k,.int .i64 x.Ic.va.i,.str x.Ic.va.s,.str x.Ic.tb,.str x.Ic.nm,.int .i64 x.Ic.slot,.int .u8 x.Ic.kd,gF (eP x.Ic.args)]
@[reducible] def UG (x:Ip):SV:= .agg [.str x.nm,.int .u8 x.kd,.bool x.nn]
@[reducible] def K7 (cs:List SV):aA:= .vec 0 23 [.agg cs] ⟨false,some 51⟩
@[reducible] def A7 (kind:Int) (name PF:List UInt8) (Q2 key:SV) (uniq:Bool) (names rows items UE:SV) (group order:SV) (limit:Int) (sets:SV):List SV:=
  [.int .u8 kind,.str name,.str PF,Q2,key,.bool uniq,names,rows,items,UE,.int .u8 0,.int .u8 0,.int .i64 0,.str [],.str [],.str [],.int .i64 0,.int .u8 0,.ak,group,order,.int .i64 limit,sets]
end Go.Proofs.YtbjifmbemdhndaaGreatDoor
namespace Go.Proofs.YtbjifmbemdhndaaGreatDoor
open Ab Go.RowKit
set_option maxRecDepth 100000
set_option maxHeartbeats 8000000
attribute [local irreducible] aO bx
section
variable {l:List TP} {m e:Nat}
def Td{α:Type}(l:List TP)(m e:Nat)(tgt:SV->aA)(ty:TypeId)(sz:Nat)(sv:α->SV)(res:cH α)(r:bV)(h':Heap):Prop:=match res with
 | .ok x j=>r= .ret (.aN [])/\h'=⟨4,[(3,.vec 0 sz [sv x] ⟨true,some ty⟩),(2,tgt (.sl 3 0 sz 0 1 none)),(1,FJ),(0,gQ l j m e)]⟩
 | .bad er j=>r= .cZ (rR er (eN l m j))
def Te{α:Type}(l:List TP)(m e:Nat)(tgt:SV->aA)(ty:TypeId)(sz:Nat)(sv:α->SV)(g:Nat)(xs:List α)(res:cH α)(r:bV)(h':Heap):Prop:=match res with
 | .ok x j=>r= .ret (.aN [])/\h'=⟨4,[(3,.vec (g+1) sz ((xs++[x]).map sv) ⟨true,some ty⟩),(2,tgt (.sl 3 (g+1) sz 0 (xs.length+1) none)),(1,FJ),(0,gQ l j m e)]⟩
 | .bad er j=>r= .cZ (rR er (eN l m j))
theorem Q3.of{α:Type}{fl:Bool}{f:FuncId}{tgt:SV->aA}{ty:TypeId}{sz:Nat}{one:Nat->cH α}{sv:α->SV}(ht:wX tgt)(hc:gI Tryz.prog f=true)(hs: ∀x,bA (sv x))(hf:sY l.length one)
  (hE: ∀i,i<=l.length->aP Tryz.prog f (aT fl) ⟨3,[(2,tgt .ak),(1,FJ),(0,gQ l i m e)]⟩ (Td l m e tgt ty sz sv (one i)))
  (hL: ∀i (xs:List α) (g:Nat),i<=l.length->xs.length<=1000->aP Tryz.prog f (aT fl) ⟨4,[(3,.vec g sz (xs.map sv) ⟨true,some ty⟩),(2,tgt (.sl 3 g sz 0 xs.length none)),(1,FJ),(0,gQ l i m e)]⟩ (Te l m e tgt ty sz sv g xs (one i))):
  Q3 fl f l m e tgt ty sz one sv where
 tok:=ht
 WQ:=hc
 lit:=hs
 lt:=fun{i j x} h hi=>(hf i x j hi h).2
 E:=fun{i j x} hi h=>by have:=hE i hi;rw[h]at this;exact this
 Eb:=fun{i j er} hi h=>by have:=hE i hi;rw[h]at this;exact this
 L:=fun{i j x g xs} hi hx h=>by have:=hL i xs g hi hx;rw[h]at this;exact this
 Lb:=fun{i j er g xs} hi hx h=>by have:=hL i xs g hi hx;rw[h]at this;exact this
abbrev Q5(l:List TP):Nat->cH Ex:=(lu (aX l) (sM cN) l.length 40).expr
end
section
variable {l:List TP} {m e:Nat}
theorem hbd(n:Nat):(decide ((0:Int)<=(n:Int))&&decide ((n:Int)<((n+1:Nat):Int)))=true:=by simp;omega
end
section
variable {l:List TP} {m e:Nat}
inductive OT(l:List TP)(r:cH (List Ip)) where
 |E (i:Nat) (hi:i<=l.length) (h:CB (aX l) l.length (sM cN) 12 [] i=r)
 |L (b:Bool) (g:Nat) (xs:List Ip) (f i:Nat) (hf:xs.length+f=12) (h0:0<xs.length) (hi:i<=l.length) (h:CB (aX l) l.length (sM cN) f xs i=r)
@[reducible] def OT.env {l:List TP} {r:cH (List Ip)}:OT l r->Env
  |_=>[(0,.ref 0 0 0 0),(2,.ref 1 0 0 0),(3,.ref 3 0 0 0)]
@[reducible] def OT.hp {l:List TP} {r:cH (List Ip)} (m:Nat) (n:List UInt8):OT l r->Heap
  | .E i .. =>⟨5,[(3,K7 (A7 5 n [] .ak .ak false .ak .ak .ak .ak .ak .ak 0 .ak)),(1,K7 (A7 0 [] [] .ak .ak false .ak .ak .ak .ak .ak .ak 0 .ak)),(0,gQ l i m 0)]⟩
  | .L false g xs _ i .. =>⟨10,[(8,.vec g 3 (xs.map UG) ⟨true,some 96⟩),(3,K7 (A7 5 n [] (.sl 8 g 3 0 xs.length none) .ak false .ak .ak .ak .ak .ak .ak 0 .ak)),(1,K7 (A7 0 [] [] .ak .ak false .ak .ak .ak .ak .ak .ak 0 .ak)),(0,gQ l i m 0)]⟩
  | .L true g xs _ i .. =>⟨10,[(9,.vec g 3 (xs.map UG) ⟨true,some 96⟩),(3,K7 (A7 5 n [] (.sl 9 g 3 0 xs.length none) .ak false .ak .ak .ak .ak .ak .ak 0 .ak)),(1,K7 (A7 0 [] [] .ak .ak false .ak .ak .ak .ak .ak .ak 0 .ak)),(0,gQ l i m 0)]⟩
def OT.mu{l:List TP}{r:cH (List Ip)}:OT l r->Nat
 | .E .. =>13
 | .L _ _ _ f .. =>f
end
section
variable {l:List TP} {m e:Nat}
structure UH(l:List TP)(r:cH (List Src)) where
 g:Nat
 xs:List Src
 f:Nat
 i:Nat
 hf:xs.length+f=4
 h0:0<xs.length
 hi:i<=l.length
 h:Ev (aX l) l.length (sM cN) (Q5 l) f xs i=r
@[reducible] def UH.hp {r:cH (List Src)} (m:Nat) (items:List Tb) (s0:Src):UH l r->Heap
  |⟨g,xs,f,i,_,_,_,_⟩=>⟨8,[(7,.vec g 11 (xs.map UF) ⟨true,some 107⟩),(6,.vec 0 11 [UF s0] ⟨false,some 107⟩),(3,K7 (A7 1 [] [] .ak .ak false .ak .ak (rowOf 11 (items.map WR)) (.sl 7 g 11 0 xs.length none) .ak .ak (-1) .ak)),(2,K7 (A7 0 [] [] .ak .ak false .ak .ak .ak .ak .ak .ak 0 .ak)),(1,FJ),(0,gQ l i m 0)]⟩
end
end Go.Proofs.YtbjifmbemdhndaaGreatDoor
namespace Go.Proofs.YtbjifmbemdhndaaGreatDoor
open Ab Go.RowKit
set_option maxRecDepth 100000
set_option maxHeartbeats 4000000
attribute [local irreducible] aO bx
theorem Q6(f:FuncId):bA (.func (.func f) [] []):=by
 constructor
 all_goals (intro v hv;cases hv)
def qV(q:Nat->Bool):Nat->Bool
 |0=>true
 |n+1=>qV q n&&q n
theorem u5{q:Nat->Bool}: ∀ {n i:Nat},i<n->q i=false->qV q n=false
 |0,_,h,_=>absurd h (Nat.not_lt_zero _)
 |n+1,i,h,hq=>by
  rcases Nat.lt_succ_iff_lt_or_eq.1 h with h|rfl
  ·rw[qV,u5 h hq,Bool.false_and]
  ·rw[qV,hq,Bool.and_false]
theorem xd{q:Nat->Bool}: ∀ {n:Nat},(∀ i,i<n->q i=true)->qV q n=true
 |0,_=>rfl
 |n+1,h=>by rw[qV,xd fun i hi=>h i (by omega),h n (by omega)];rfl
theorem Q7{n k:Nat}{g h:Nat->SV}{f:FuncId}{q:Nat->Bool}(hf:gI Tryz.prog f=true)(hu:n<=100000)(hg: ∀i,i<n-> ∃a0 a1 a2 a3 a4 a5 a6 a7 a8:SV,g i= .agg [a0,a1,a2,a3,a4,a5,a6,a7,a8]/\ff [a0,a1,a2,a3,a4,a5,a6,a7,a8]=true)(hh: ∀i,i<k-> ∃b0 b1 b2 b3 b4 b5 b6 b7 b8:SV,h i= .agg [b0,b1,b2,b3,b4,b5,b6,b7,b8]/\ff [b0,b1,b2,b3,b4,b5,b6,b7,b8]=true)(hc:n=k-> ∀i,i<n->au Tryz.prog f [g i,h i] (.bool (q i))):
  au Tryz.prog 41 [.eR 9 n g,.eR 9 k h,.func (.func f) [] []] (.bool (n==k&&qV q n)):=by
 refine bu (D0 (.eR _ _ _) (.eR _ _ _) (Q6 _)) (KE.call mixed rfl ?_);by_cases hl:n=k
 ·subst hl
  have h1:((n:Int)!=(n:Int))=false:=by simp
  rw[show (n==n)=true from beq_self_eq_true n,Bool.true_and];iterate 20 all_goals ((try conv=>whnf);try first|(with_reducible first|refine zY ?_|refine zN ?_|refine zT ?_|refine br (fun _=> ?_) (fun _=> ?_)|refine⟨rfl,?_⟩))
  refine nT (σ:={i:Nat // i<=n/\ ∀j,j<i->q j=true}) (fun y=>[(0,.eR 9 n g),(1,.eR 9 n h),(2,.func (.func f) [] []),(6,.bool false),(14,.bool false),(15,.eR 9 n g),(16,.int .i64 (n:Int)),(17,.int .i64 ((y.1:Nat):Int))])
   (fun _=>⟨0,[]⟩) (fun y=>n-y.1) (fun _=>0) (fun _=>Nat.le_refl 0) ?_ ⟨0,Nat.zero_le _,fun _ h=>absurd h (Nat.not_lt_zero _)⟩
  rintro⟨i,hi,hq⟩;dsimp only;have e7:IntKind.i64.wrap ((i:Int)+1)=((i+1:Nat):Int):=bL (by omega);have et:=Int.toNat_natCast i;by_cases hil:i<n
  ·have hd:decide ((i:Int)<(n:Int))=true:=decide_eq_true (by omega)
   have hb:(decide (0<=(i:Int))&&decide ((i:Int)<(n:Int)))=true:=by simp only[Bool.and_eq_true,decide_eq_true_eq];omega
   obtain⟨a0,a1,a2,a3,a4,a5,a6,a7,a8,ea,oa⟩:=hg i hil;obtain⟨b0,b1,b2,b3,b4,b5,b6,b7,b8,eb,ob⟩:=hh i hil;have pa:(Nat.beq [a0,a1,a2,a3,a4,a5,a6,a7,a8].length 9&&ff [a0,a1,a2,a3,a4,a5,a6,a7,a8])=true:=oa;have pb:(Nat.beq [b0,b1,b2,b3,b4,b5,b6,b7,b8].length 9&&ff [b0,b1,b2,b3,b4,b5,b6,b7,b8])=true:=ob;have cf:=hc rfl i hil;rw[ea,eb]at cf;rw[<- et]at ea eb;cases tg:q i with
   |false=>
    rw[tg]at cf;iterate 80 all_goals ((try conv=>whnf);try first|(with_reducible first|refine zY ?_|refine zN ?_|refine zT ?_|refine br (fun _=> ?_) (fun _=> ?_)|refine⟨rfl,?_⟩)|(refine au.call cf ?_)|(rewrite [ea])|(rewrite [eb]))
    exact leaf (by rw[u5 hil tg]) (.bool _)
   |true=>
    rw[tg]at cf;iterate 80 all_goals ((try conv=>whnf);try first|(with_reducible first|refine zY ?_|refine zN ?_|refine zT ?_|refine br (fun _=> ?_) (fun _=> ?_)|refine⟨rfl,?_⟩)|(refine au.call cf ?_)|(rewrite [ea])|(rewrite [eb]))
    exact⟨⟨i+1,hil,fun j hj=>by
     rcases(by omega:j<i\/j=i)with h|rfl
     ·exact hq j h
     ·exact tg⟩,by dsimp only;omega,by rw[e7],rfl⟩
  ·have hd:decide ((i:Int)<(n:Int))=false:=decide_eq_false (by omega)
   obtain rfl:i=n:=by omega
   iterate 20 all_goals ((try conv=>whnf);try first|(with_reducible first|refine zY ?_|refine zN ?_|refine zT ?_|refine br (fun _=> ?_) (fun _=> ?_)|refine⟨rfl,?_⟩))
   exact leaf (by rw[xd hq]) (.bool _)
 ·have h1:((n:Int)!=(k:Int))=true:=bne_iff_ne.2 (by omega)
  rw[show (n==k)=false from beq_eq_false_iff_ne.2 hl,Bool.false_and];iterate 20 all_goals ((try conv=>whnf);try first|(with_reducible first|refine zY ?_|refine zN ?_|refine zT ?_|refine br (fun _=> ?_) (fun _=> ?_)|refine⟨rfl,?_⟩))
  exact leaf rfl (.bool _)
mutual
def oZ:Ex->Ex->Bool
 | .mk op v tb nm slot kd args,.mk op' v' pZ qb ei oJ args'=>op==op'&&(v.k==v'.k&&(v.i==v'.i&&v.s==v'.s))&&tb==pZ&&nm==qb&&slot==ei&&kd==oJ&&qf args args'
def qf:List Ex->List Ex->Bool
 | [],[]=>true
 |x::r,y::s=>oZ x y&&qf r s
 |_,_=>false
end
mutual
def n5:Ex->Bool
 | .mk _ _ _ _ _ _ args=>decide (args.length<=1000)&&jn args
def jn:List Ex->Bool
 | []=>true
 |x::r=>n5 x&&jn r
end
theorem iX: ∀l:List Ex,(eP l).length=l.length
 | []=>rfl
 |x::r=>by rw[eP,List.length_cons,List.length_cons,iX r]
theorem tC: ∀(l:List Ex) (i:Nat),i<l.length->(eP l).getD i .undef=kq (l.getD i xY)
 | [],_,h=>absurd h (Nat.not_lt_zero _)
 |x::r,0,_=>rfl
 |x::r,i+1,h=>tC r i (Nat.lt_of_succ_lt_succ h)
theorem u6: ∀(l:List Ex) (i:Nat),jn l=true->i<l.length->n5 (l.getD i xY)=true
 | [],_,_,h=>absurd h (Nat.not_lt_zero _)
 |x::r,0,hs,_=>by rw[jn,Bool.and_eq_true]at hs;exact hs.1
 |x::r,i+1,hs,h=>by rw[jn,Bool.and_eq_true]at hs;exact u6 r i hs.2 (Nat.lt_of_succ_lt_succ h)
theorem Ey: ∀(l:List Ex) (i:Nat),i<l.length->SizeOf.sizeOf (l.getD i xY)<SizeOf.sizeOf l
 | [],_,h=>absurd h (Nat.not_lt_zero _)
 |x::r,0,_=>by show SizeOf.sizeOf x<1+SizeOf.sizeOf x+SizeOf.sizeOf r;omega
 |x::r,i+1,h=>by
  have:=Ey r i (Nat.lt_of_succ_lt_succ h);show SizeOf.sizeOf (r.getD i xY)<1+SizeOf.sizeOf x+SizeOf.sizeOf r;omega
theorem xe(q:Nat->Bool): ∀n,qV q (n+1)=(q 0&&qV (fun i=>q (i+1)) n)
 |0=>by simp[qV]
 |n+1=>by rw[qV,xe q n,qV,Bool.and_assoc]
theorem xg: ∀(l r:List Ex),((l.length==r.length)&&qV (fun i=>oZ (l.getD i xY) (r.getD i xY)) l.length)=qf l r
 | [],[]=>rfl
 | [],_::_=>rfl
 |_::_,[]=>rfl
 |x::l,y::r=>by
  rw[qf,<-xg l r,List.length_cons,List.length_cons,xe];show((l.length+1==r.length+1)&&(oZ x y&&qV (fun i=>oZ (l.getD i xY) (r.getD i xY)) l.length))=_
  have:(l.length+1==r.length+1)=(l.length==r.length):=by
   by_cases h:l.length=r.length
   ·rw[h];simp
   ·rw[beq_eq_false_iff_ne.2 h];exact beq_eq_false_iff_ne.2 (by omega)
  rw[this];cases (l.length==r.length)<;>cases oZ x y<;>rfl
theorem JV(x:Ex):ff (Tc x)=true:=rfl
theorem FK: ∀(n:Nat) (x y:Ex),SizeOf.sizeOf x<=n->n5 x=true->au Tryz.prog 18 [kq x,kq y] (.bool (oZ x y)):=by
 intro n
 induction n with
 |zero=>intro x y h;cases x;exact absurd h (by simp)
 |succ n ih=>
  intro x y hn hs;obtain⟨op,⟨vk,vi,vs⟩,tb,nm,slot,kd,args⟩:=x;obtain⟨UI,⟨UJ,UK,UL⟩,UM,UN,K8,UO,args2⟩:=y;rw[n5,Bool.and_eq_true]at hs;have hz:SizeOf.sizeOf args<n+1:=Nat.lt_of_lt_of_le (by simp;omega) hn;have hlen:args.length<=1000:=of_decide_eq_true hs.1
  have ca:au Tryz.prog 41 [gF (eP args),gF (eP args2),.func (.func 18) [] []] (.bool (qf args args2)):=by
   rw[<- xg,<-iX args,<-iX args2]
   have sh: ∀(l:List Ex) (i:Nat),i<(eP l).length-> ∃a0 a1 a2 a3 a4 a5 a6 a7 a8:SV,(eP l).getD i .undef= .agg [a0,a1,a2,a3,a4,a5,a6,a7,a8]/\ff [a0,a1,a2,a3,a4,a5,a6,a7,a8]=true:=fun l i hi=>by
    rw[iX]at hi;rw[tC l i hi,Q4];exact⟨_,_,_,_,_,_,_,_,_,rfl,JV _⟩
   refine Q7 (g:=fun i=>(eP args).getD i .undef) (h:=fun i=>(eP args2).getD i .undef) rfl (by rw[iX];omega) (sh args) (sh args2) fun he i hi=> ?_
   rw[iX]at hi;rw[iX,iX]at he;rw[tC args i hi,tC args2 i (by omega)];exact ih _ _ (by have:=Ey args i hi;omega) (u6 args i hs.2 hi)
  rw[oZ,aB,aB];refine bu (kJ (.agg (Ew (.mk op ⟨vk,vi,vs⟩ tb nm slot kd args))) (.agg (Ew (.mk UI ⟨UJ,UK,UL⟩ UM UN K8 UO args2)))) (Kw.call mixed rfl ?_);cases h0:(op==UI)with
  |false=>
   iterate 60 all_goals ((try conv=>whnf);try first|(with_reducible first|refine zY ?_|refine zN ?_|refine zT ?_|refine br (fun _=> ?_) (fun _=> ?_)|refine⟨rfl,?_⟩))
   exact leaf (by simp) (.bool _)
  |true=>
   cases h1:(vk==UJ&&(vi==UK&&vs==UL))with
   |false=>
    iterate 60 all_goals ((try conv=>whnf);try first|(with_reducible first|refine zY ?_|refine zN ?_|refine zT ?_|refine br (fun _=> ?_) (fun _=> ?_)|refine⟨rfl,?_⟩))
    exact leaf (by simp) (.bool _)
   |true=>
    cases h2:(tb==UM)with
    |false=>
     iterate 60 all_goals ((try conv=>whnf);try first|(with_reducible first|refine zY ?_|refine zN ?_|refine zT ?_|refine br (fun _=> ?_) (fun _=> ?_)|refine⟨rfl,?_⟩))
     exact leaf (by simp) (.bool _)
    |true=>
     cases h3:(nm==UN)with
     |false=>
      iterate 60 all_goals ((try conv=>whnf);try first|(with_reducible first|refine zY ?_|refine zN ?_|refine zT ?_|refine br (fun _=> ?_) (fun _=> ?_)|refine⟨rfl,?_⟩))
      exact leaf (by simp) (.bool _)
     |true=>
      cases h4:(slot==K8)with
      |false=>
       iterate 60 all_goals ((try conv=>whnf);try first|(with_reducible first|refine zY ?_|refine zN ?_|refine zT ?_|refine br (fun _=> ?_) (fun _=> ?_)|refine⟨rfl,?_⟩))
       exact leaf (by simp) (.bool _)
      |true=>
       cases h5:(kd==UO)with
       |false=>
        iterate 60 all_goals ((try conv=>whnf);try first|(with_reducible first|refine zY ?_|refine zN ?_|refine zT ?_|refine br (fun _=> ?_) (fun _=> ?_)|refine⟨rfl,?_⟩))
        exact leaf (by simp) (.bool _)
       |true=>
        iterate 60 all_goals ((try conv=>whnf);try first|(with_reducible first|refine zY ?_|refine zN ?_|refine zT ?_|refine br (fun _=> ?_) (fun _=> ?_)|refine⟨rfl,?_⟩|refine au.call (ca) ?_))
        exact leaf (by simp) (.bool _)
end Go.Proofs.YtbjifmbemdhndaaGreatDoor
