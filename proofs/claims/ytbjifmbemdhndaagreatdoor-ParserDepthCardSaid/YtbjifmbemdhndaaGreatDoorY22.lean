/- Parts of the proof of PParserDepth, one behind the other, with short names. -/
import Derived.Test.YtbjifmbemdhndaaGreatDoorY21
import Derived.Test.YtbjifmbemdhndaaGreatDoorY19
import Derived.KernelRfl
set_option linter.unusedVariables false
set_option linter.unusedSimpArgs false
namespace Go.Proofs.YtbjifmbemdhndaaGreatDoor
section
def D4:Tk:=⟨4,[40],0⟩
def GN:Tk:=⟨4,[41],0⟩
def sE:Tk:=⟨1,[110,111,116],0⟩
def oQ:Tk:=⟨1,[109,97,120],0⟩
def pN:Tk:=⟨1,[116,114,117,101],0⟩
def gA:Nat->List Tk
 |0=>[D4]
 |1=>[D4,sE]
 |_=>[oQ,D4]
def cy:List Nat->List Tk
 | []=>[pN]
 |k::r=>gA k++(cy r++[GN])
def kO:List Nat->Ex
 | []=>lp ⟨1,1,[]⟩
 |0::r=>kO r
 |1::r=>kz 17 [kO r]
 |_::r=>kz 25 [kO r]
def gT:Nat->Nat
 |1=>2
 |_=>1
def cz:List Nat->Nat
 | []=>0
 |k::r=>gT k+cz r
def Bg(T:ke)(i:Nat)(l:List Tk):Prop:= ∀j,j<l.length->T (i+j)=l.getD j D4
theorem Bg.app{T:ke}{i:Nat}{a b:List Tk}(h:Bg T i (a++b)):Bg T i a/\Bg T (i+a.length) b:=by
 refine⟨fun j hj=> ?_,fun j hj=> ?_⟩
 ·have:=h j (by rw[List.length_append];omega)
  rw[this,List.getD,List.getElem?_append_left hj];rfl
 ·have:=h (a.length+j) (by rw[List.length_append];omega)
  rw[show i+a.length+j=i+(a.length+j) by omega,this,List.getD,List.getElem?_append_right (by omega)];rw[Nat.add_sub_cancel_left];rfl
theorem Bg.hd{T:ke}{i:Nat}{x:Tk}{r:List Tk}(h:Bg T i (x::r)):T i=x:=h 0 (by simp)
structure Stop(t:Tk):Prop where
 Uu:ie kN t=none
 GM:ie gh t=none
 sum:ie eA t=none
 mul:ie eW t=none
 V0:((t.k==1||t.k==4)&&t.t==[105,115])=false
 cmp:find? BY t.t=none
theorem Kr:Stop GN:=⟨rfl,rfl,rfl,rfl,rfl,rfl⟩
theorem Ks:Stop ⟨0,[],0⟩:=⟨rfl,rfl,rfl,rfl,rfl,rfl⟩
section
variable {T:ke} {bB:List UInt8->Bool} {n:Nat}
theorem ig{ops:D2}{part:Nat->cH Ex}{i j:Nat}{x:Ex}(h:part i= .ok x j)(hs:ie ops (T j)=none):eV T n ops part i= .ok x j:=by
 unfold eV;rw[h];show cB T ops part n x j=_;cases n with
 |zero=>rfl
 |succ n=>rw[cB,hs]
theorem gB{ops:D2}{part:Nat->cH Ex}{i j:Nat}{e:Int}(h:part i= .bad e j):eV T n ops part i= .bad e j:=by
 unfold eV;rw[h];rfl
theorem GO{d i j:Nat}{x:Ex}(hn:fM T [110,111,116] i=false)(hm:fM T [45] i=false)(h:(lu T bB n d).lW i= .ok x j)(hs:Stop (T j)):(lu T bB n d).iU i= .ok x j/\(lu T bB n d).expr i= .ok x j:=by
 rw[B4]at h ⊢
 have hu:(pM T bB n (ux T bB n d)).unary i= .ok x j:=by
  show mK T _ _ i=_;unfold mK;rw[hm,if_neg (by decide)];exact h
 have hp:(pM T bB n (ux T bB n d)).prod i= .ok x j:=ig hu hs.mul;have Sz:(pM T bB n (ux T bB n d)).sum i= .ok x j:=ig hp hs.sum
 have hc:(pM T bB n (ux T bB n d)).cmp i= .ok x j:=by
  show xZ T _ i=_;unfold xZ;rw[show eV T n eA _ i=cH.ok x j from Sz];dsimp only[cH.then];rw[show fM T [105,115] j=false from hs.V0,if_neg (by decide),hs.cmp]
 have hnt:(pM T bB n (ux T bB n d)).iU i= .ok x j:=by
  show pL T _ _ i=_;unfold pL;rw[hn,if_neg (by decide)];exact hc
 exact⟨hnt,ig (ig hnt hs.GM) hs.Uu⟩
theorem Mb{d i j:Nat}{e:Int}(hn:fM T [110,111,116] i=false)(hm:fM T [45] i=false)(h:(lu T bB n d).lW i= .bad e j):(lu T bB n d).iU i= .bad e j/\(lu T bB n d).expr i= .bad e j:=by
 rw[B4]at h ⊢
 have hu:(pM T bB n (ux T bB n d)).unary i= .bad e j:=by
  show mK T _ _ i=_;unfold mK;rw[hm,if_neg (by decide)];exact h
 have hp:(pM T bB n (ux T bB n d)).prod i= .bad e j:=gB hu;have Sz:(pM T bB n (ux T bB n d)).sum i= .bad e j:=gB hp
 have hc:(pM T bB n (ux T bB n d)).cmp i= .bad e j:=by
  show xZ T _ i=_;unfold xZ;rw[show eV T n eA _ i=cH.bad e j from Sz];rfl
 have hnt:(pM T bB n (ux T bB n d)).iU i= .bad e j:=by
  show pL T _ _ i=_;unfold pL;rw[hn,if_neg (by decide)];exact hc
 exact⟨hnt,gB (gB hnt)⟩
theorem GQ{d i j:Nat}{x:Ex}(hn:fM T [110,111,116] i=true)(h:(lu T bB n d).iU (i+1)= .ok x j)(hs:Stop (T j)):(lu T bB n (d+1)).iU i= .ok (kz 17 [x]) j/\(lu T bB n (d+1)).expr i= .ok (kz 17 [x]) j:=by
 have hnt:(lu T bB n (d+1)).iU i= .ok (kz 17 [x]) j:=by
  show pL T _ _ i=_;unfold pL;rw[hn,if_pos rfl];show((lu T bB n d).iU (i+1)).then _=_;rw[h];rfl
 exact⟨hnt,ig (ig hnt hs.GM) hs.Uu⟩
theorem I0{d i j:Nat}{e:Int}(hn:fM T [110,111,116] i=true)(h:(lu T bB n d).iU (i+1)= .bad e j):(lu T bB n (d+1)).iU i= .bad e j/\(lu T bB n (d+1)).expr i= .bad e j:=by
 have hnt:(lu T bB n (d+1)).iU i= .bad e j:=by
  show pL T _ _ i=_;unfold pL;rw[hn,if_pos rfl];show((lu T bB n d).iU (i+1)).then _=_;rw[h];rfl
 exact⟨hnt,gB (gB hnt)⟩
theorem GR{i:Nat}(hn:fM T [110,111,116] i=true):(lu T bB n 0).iU i= .bad 241 i/\(lu T bB n 0).expr i= .bad 241 i:=by
 have hnt:(lu T bB n 0).iU i= .bad 241 i:=by
  show pL T _ _ i=_;unfold pL;rw[hn,if_pos rfl];rfl
 exact⟨hnt,gB (gB hnt)⟩
theorem wF{d i:Nat}(h:T i=pN):(lu T bB n d).lW i= .ok (lp ⟨1,1,[]⟩) (i+1):=by
 rw[B4];show fN T bB _ i=_;unfold fN;rw[h];rfl
theorem pO{d i:Nat}(h:T i=D4):(lu T bB n (d+1)).lW i=((lu T bB n d).expr (i+1)).then fun x j=>(dX T [41] j).then fun _ k=> .ok x k:=by
 show fN T bB _ i=_;unfold fN;rw[show (T i).k=4 by rw[h];rfl];show fN.lq T bB _ i=_;unfold fN.lq;rw[show fM T [40] i=true by unfold fM;rw[h];rfl];rfl
theorem sF{i:Nat}(h:T i=D4):(lu T bB n 0).lW i= .bad 241 i:=by
 show fN T bB _ i=_;unfold fN;rw[show (T i).k=4 by rw[h];rfl];show fN.lq T bB _ i=_;unfold fN.lq;rw[show fM T [40] i=true by unfold fM;rw[h];rfl];rfl
theorem Ac{d i:Nat}(h:T i=oQ)(h1:T (i+1)=D4):(lu T bB n (d+1)).lW i=((lu T bB n d).expr (i+2)).then fun x j=>(dX T [41] j).then fun _ k=> .ok (kz 25 [x]) k:=by
 show fN T bB _ i=_;unfold fN;rw[h];show sU T _ 25 i=_;unfold sU;rw[show fM T [40] (i+1)=true by unfold fM;rw[h1];rfl];rfl
theorem Fj{i:Nat}(h:T i=oQ):(lu T bB n 0).lW i= .bad 241 i:=by
 show fN T bB _ i=_;unfold fN;rw[h];rfl
theorem GU{j:Nat}(h:T j=GN):dX T [41] j= .ok () (j+1):=by
 unfold dX fM;rw[h];rfl
def GV(ks:List Nat)(d:Nat):Nat:=((ks.take d).map fun k=>(gA k).length).sum
def pP(ks:List Nat)(d i:Nat)(r:cH Ex):Prop:=if cz ks<=d then r= .ok (kO ks) (i+(cy ks).length)else ∃j,r= .bad 241 j/\((∀ k∈ks,gT k=1)->j=i+GV ks d)
theorem B5(ks:List Nat): ∃r,cy ks=pN::r\/cy ks=D4::r\/cy ks=oQ::r:=by
 match ks with
 | []=>exact⟨[],.inl rfl⟩
 |0::r=>exact⟨_,.inr (.inl rfl)⟩
 |1::r=>exact⟨_,.inr (.inl rfl)⟩
 |(k+2)::r=>exact⟨_,.inr (.inr rfl)⟩
theorem th{ks:List Nat}{d i:Nat}(ha:Bg T i (cy ks))(hs:Stop (T (i+(cy ks).length)))(h:pP ks d i ((lu T bB n d).lW i)):pP ks d i ((lu T bB n d).iU i)/\pP ks d i ((lu T bB n d).expr i):=by
 obtain⟨r,hr⟩:=B5 ks
 have hf:fM T [110,111,116] i=false/\fM T [45] i=false:=by
  unfold fM;rcases hr with hr|hr|hr<;>rw[hr]at ha<;>rw[ha.hd]<;>exact⟨rfl,rfl⟩
 unfold pP at h ⊢;by_cases hd:cz ks<=d
 ·rw[if_pos hd]at h
  rw[if_pos hd];rw[if_pos hd];exact GO hf.1 hf.2 h hs
 ·rw[if_neg hd]at h
  rw[if_neg hd];rw[if_neg hd];obtain⟨j,h1,h2⟩:=h;obtain⟨u1,u2⟩:=Mb hf.1 hf.2 h1;exact⟨⟨j,u1,h2⟩,⟨j,u2,h2⟩⟩
theorem qD: ∀(ks:List Nat) (d i:Nat),Bg T i (cy ks)->pP ks d i ((lu T bB n d).lW i)
 | [],d,i,ha=>by
   unfold pP;rw[if_pos (show cz []<=d from Nat.zero_le _)];exact wF ha.hd
 |k::r,d,i,ha=>by
  obtain⟨a1,a2⟩:=Bg.app (a:=gA k) (b:=cy r++[GN]) ha;obtain⟨a3,a4⟩:=Bg.app a2;have hR:=a4.hd;have hst:Stop (T (i+(gA k).length+(cy r).length)):=by rw[hR];exact Kr
  have hlen:(cy (k::r)).length=(gA k).length+(cy r).length+1:=by rw[cy,List.length_append,List.length_append];rfl
  have fin: ∀(d':Nat) (x:Ex) (f:Ex->Ex) (e:cH Ex),d'+gT k=d->kO (k::r)=f (kO r)->pP r d' (i+(gA k).length) e->pP (k::r) d i (e.then fun x j=>(dX T [41] j).then fun _ q=> .ok (f x) q):=by
   intro d' x f e hd hx he;unfold pP at he ⊢;have ku:cz (k::r)=gT k+cz r:=rfl;by_cases h:cz r<=d'
   ·rw[if_pos h]at he
    rw[if_pos (by omega),he,hx,hlen];show(dX T [41] _).then _=_;rw[GU hR];show cH.ok _ _=_;congr 1;omega
   ·rw[if_neg h]at he
    rw[if_neg (by omega)];obtain⟨j,h1,h2⟩:=he;refine⟨j,by rw[h1];rfl,fun hk=> ?_⟩;rw[h2 fun q hq=>hk q (by simp[hq])];have:gT k=1:=hk k (by simp);obtain⟨d,rfl⟩: ∃q,d=q+1:=⟨d-1,by omega⟩;have:d'=d:=by omega
    subst this;unfold GV;rw[List.take_succ_cons,List.map_cons,List.sum_cons];omega
  have zero: ∀e:cH Ex,d=0->e= .bad 241 i->pP (k::r) d i e:=by
   intro e hd he;have:1<=gT k:=by unfold gT;split<;>decide
   unfold pP;rw[if_neg (by show ¬gT k+cz r<=d;omega)];exact⟨i,he,fun _=>by subst hd;rfl⟩
  match k,d with
  |0,0=>exact zero _ rfl (sF a1.hd)
  |0,d+1=>
   rw[pO a1.hd];exact fin d (kO r) id _ rfl rfl (th a3 hst (qD r d _ a3)).2
  |1,0=>exact zero _ rfl (sF a1.hd)
  |1,1=>
   have hn:fM T [110,111,116] (i+1)=true:=by unfold fM;rw[show T (i+1)=sE from a1 1 (by decide)];rfl
   rw[pO a1.hd,(GR (bB:=bB) (n:=n) hn).2];unfold pP;rw[if_neg (by show ¬2+cz r<=1;omega)];exact⟨i+1,rfl,fun h=>by have:=h 1 (by simp);exact absurd this (by decide)⟩
  |1,d+2=>
   have hn:fM T [110,111,116] (i+1)=true:=by unfold fM;rw[show T (i+1)=sE from a1 1 (by decide)];rfl
   have ih:=(th a3 hst (qD r d _ a3)).1;rw[pO a1.hd];refine(show ∀e,e=(lu T bB n (d+1)).expr (i+1)->pP (1::r) (d+2) i (e.then fun x j=>(dX T [41] j).then fun _ q=> .ok x q) from fun e he=> ?_) _ rfl;have key:=fin d (kO r) (fun x=>kz 17 [x]) _ rfl rfl ih
   have hee:(e.then fun x j=>(dX T [41] j).then fun _ q=>cH.ok x q)=(((lu T bB n d).iU (i+2)).then fun x j=>(dX T [41] j).then fun _ q=>cH.ok (kz 17 [x]) q):=by
    rw[he];have rY:=ih;unfold pP at rY;by_cases h:cz r<=d
    ·rw[if_pos h]at rY
     rw[(GQ hn rY hst).2,show i+2=i+(gA 1).length from rfl,rY];rfl
    ·rw[if_neg h]at rY
     obtain⟨j,h1,_⟩:=rY;rw[(I0 hn h1).2,show i+2=i+(gA 1).length from rfl,h1];rfl
   rw[hee];exact key
  |k+2,0=>exact zero _ rfl (Fj a1.hd)
  |k+2,d+1=>
   rw[Ac a1.hd (a1 1 (by show 1<2;decide))];exact fin d (kO r) (fun x=>kz 25 [x]) _ rfl rfl (th a3 hst (qD r d _ a3)).2
end
end
def SA(s:List UInt8):Int:=if s≠[]/\((97<=(s.getD 0 0).toNat/\(s.getD 0 0).toNat<=122)\/(s.getD 0 0).toNat=95)then 1 else 4
def bg(s:List UInt8):Tk:=⟨SA s,s,0⟩
def rM(op k i:Int):Int:=if op=16 then 1 else if op=15 then 2 else if op=17 then 3 else if op=9\/op=10\/op=11\/op=12\/op=13\/op=14\/op=19\/op=20 then 4
 else if op=3\/op=4\/op=8 then 5 else if op=5\/op=6\/op=7 then 6 else if op=18 then 7 else if op=1/\k=2/\i<0 then 7 else 8
def lz:Ex->Int
 | .mk op v _ _ _ _ _=>rM op v.k v.i
def x8(i:Int):Tk:=⟨2,[],(Go.IntKind.u64.wrap i).toNat⟩
def oI(v:Va):List Tk:=if v.k=0 then[bg [110,117,108,108]]else if v.k=1 then[bg (if v.i=1 then[116,114,117,101]else[102,97,108,115,101])]
 else if v.k=2 then(if v.i<0 then[bg [45],x8 (0-Go.IntKind.u64.wrap v.i)]else[x8 v.i])else[⟨3,v.s,0⟩]
def wG(op:Int):Option (List UInt8):=if op=16 then some [111,114]else if op=15 then some [97,110,100]else if op=9 then some [61]else if op=10 then some [60,62]else if op=11 then some [60]else if op=12 then some [60,61]
 else if op=13 then some [62]else if op=14 then some [62,61]else if op=3 then some [43]else if op=4 then some [45]else if op=8 then some [124,124]else if op=5 then some [42]else if op=6 then some [47]else if op=7 then some [37]else none
def SB(op:Int):List UInt8:=if op=22 then[99,111,117,110,116]else if op=23 then[115,117,109]else if op=24 then[109,105,110]else[109,97,120]
structure Wa where
 t:List Tk
 bad:Bool
 b:Int
 lit:Bool
def bZ(a:Wa)(least:Int):List Tk:=if least<=a.b then a.t else bg [40]::(a.t++[bg [41]])
def Uv:Wa:=⟨[],false,0,false⟩
def Ad(op:Int)(v:Va)(tb nm:List UInt8)(as:List Wa):List Tk×Bool:=
 if op=1 then(oI v,decide (as.length≠0))
 else if op=2 then((if tb≠[]then[bg tb,bg [46]]else[])++[bg nm],decide (as.length≠0))
 else if op=21 then([bg [99,111,117,110,116],bg [40],bg [42],bg [41]],decide (as.length≠0))
 else if as.length≠(if(wG op).isSome then 2 else 1)then([],true)
 else let a:=as.getD 0 Uv
  if op=17 then(bg [110,111,116]::bZ a 3,a.bad)
  else if op=18 then(bg [45]::bZ a (if a.lit then 9 else 7),a.bad)
  else if op=19 then(bZ a 5++[bg [105,115],bg [110,117,108,108]],a.bad)
  else if op=20 then(bZ a 5++[bg [105,115],bg [110,111,116],bg [110,117,108,108]],a.bad)
  else if op=22\/op=23\/op=24\/op=25 then(bg (SB op)::bg [40]::(a.t++[bg [41]]),a.bad)
  else match wG op with
   |none=>([],true)
   |some s=>let b:=rM op v.k v.i;let c:=as.getD 1 Uv
    (bZ a (if b=4 then 5 else b)++bg s::bZ c (b+1),a.bad||c.bad)
def D5:Ex->Bool
 | .mk op v _ _ _ _ _=>decide (op=1/\v.k=2/\0<=v.i)
mutual
def ga:Ex->List Tk×Bool
 | .mk op v tb nm slot kd args=>Ad op v tb nm (uy args)
def uy:List Ex->List Wa
 | []=>[]
 |x::r=>⟨(ga x).1,(ga x).2,lz x,D5 x⟩::uy r
end
end Go.Proofs.YtbjifmbemdhndaaGreatDoor
namespace Go.Proofs.YtbjifmbemdhndaaGreatDoor
set_option maxRecDepth 100000
section
def uz:Nat->List UInt8
 |0=>[40,32]
 |1=>[40,32,110,111,116,32]
 |_=>[109,97,120,32,40,32]
def bO(ks:List Nat):List UInt8:=ks.flatMap uz
def fk:Nat->List UInt8
 |0=>[]
 |n+1=>[32,41]++fk n
theorem qE: ∀n,fk n++[32,41]=fk (n+1)
 |0=>rfl
 |n+1=>by
  rw[fk,List.append_assoc,qE n];rfl
theorem rN: ∀(a b:List Tk),a≠[]->b≠[]->di (a++b)=di a++32::di b
 | [],_,h,_=>absurd rfl h
 | [x],[],_,h=>absurd rfl h
 | [x],y::r,_,_=>rfl
 |x::y::r,b,_,h=>by
  have:=rN (y::r) b (by simp) h;show cu x++32::di ((y::r)++b)=_;rw[this];show _=(cu x++32::di (y::r))++_;simp
theorem Fk(k:Nat):di (gA k)++[32]=uz k:=by
 match k with
 |0=>rfl
 |1=>rfl
 |k+2=>rfl
theorem I1(k:Nat):gA k≠[]:=by
 match k with
 |0=>exact List.cons_ne_nil _ _
 |1=>exact List.cons_ne_nil _ _
 |k+2=>exact List.cons_ne_nil _ _
theorem D6(ks:List Nat):cy ks≠[]:=by
 cases ks with
 |nil=>exact List.cons_ne_nil _ _
 |cons k r=>rw[cy];simp
theorem wH: ∀ks:List Nat,bO ks++[116,114,117,101]++fk ks.length=di (cy ks)
 | []=>rfl
 |k::r=>by
  rw[cy,rN _ _ (I1 k) (by simp),rN _ _ (D6 r) (by simp),<-wH r];have e:bO (k::r)=uz k++bO r:=rfl;rw[e,<-Fk k,List.length_cons,<-qE];have e2:di [GN]=[41]:=rfl;rw[e2];simp
theorem D7:dh D4=true:=by decide +kernel
theorem Kt:dh GN=true:=by decide +kernel
theorem D8:dh sE=true:=by decide +kernel
theorem D9:dh oQ=true:=by decide +kernel
theorem Ae:dh pN=true:=by decide +kernel
theorem Fl(k:Nat): ∀x∈gA k,dh x=true:=by
 match k with
 |0=>intro x hx;simp[gA]at hx;subst hx;exact D7
 |1=>intro x hx;simp[gA]at hx;rcases hx with rfl|rfl;exact D7;exact D8
 |k+2=>intro x hx;simp[gA]at hx;rcases hx with rfl|rfl;exact D9;exact D7
theorem wI: ∀ks:List Nat,∀x∈cy ks,dh x=true
 | [],x,hx=>by simp[cy]at hx;subst hx;exact Ae
 |k::r,x,hx=>by
  rw[cy]at hx;simp only[List.mem_append,List.mem_singleton]at hx;rcases hx with hx|hx|rfl
  ·exact Fl k x hx
  ·exact wI r x hx
  ·exact Kt
theorem GX(ks:List Nat):mI (di (cy ks))= .ok (bI 0 (cy ks)):=uw (wI ks)
def GY(l:List Tk):Nat:=(l.map fun x=>(cu x).length+1).sum
theorem qq: ∀(a b:List Tk) (p:Nat),b≠[]->((bI p (a++b)).getD a.length (⟨0,[],0⟩,0)).2=p+GY a
 | [],[],_,h=>absurd rfl h
 | [],y::r,p,_=>rfl
 |x::a,b,p,h=>by
  show((bI (p+(cu x).length+1) (a++b)).getD a.length _).2=_;rw[qq a b _ h];unfold GY;rw[List.map_cons,List.sum_cons];omega
theorem Fm(k:Nat):GY (gA k)=(uz k).length:=by
 match k with
 |0=>rfl
 |1=>rfl
 |k+2=>rfl
theorem Af: ∀(ks:List Nat) (d:Nat),∃t,cy ks=(ks.take d).flatMap gA++t/\t≠[]
 |ks,0=>⟨cy ks,rfl,D6 ks⟩
 | [],d+1=>⟨_,rfl,List.cons_ne_nil _ _⟩
 |k::r,d+1=>by
  obtain⟨t,h1,h2⟩:=Af r d;refine⟨t++[GN],?_,by simp⟩;rw[cy,h1];simp
theorem wJ: ∀ks:List Nat,GY (ks.flatMap gA)=(bO ks).length/\(ks.flatMap gA).length=(ks.map fun k=>(gA k).length).sum
 | []=>⟨rfl,rfl⟩
 |k::r=>by
  obtain⟨h1,h2⟩:=wJ r;constructor
  ·have e:bO (k::r)=uz k++bO r:=rfl
   rw[List.flatMap_cons,e,List.length_append,<-h1,<-Fm];unfold GY;rw[List.map_append,List.sum_append]
  ·rw[List.flatMap_cons,List.length_append,h2,List.map_cons,List.sum_cons]
theorem B6(ks:List Nat)(d:Nat):((bI 0 (cy ks)).getD (GV ks d) (⟨0,[],0⟩,0)).2=(bO (ks.take d)).length/\GV ks d<(cy ks).length:=by
 obtain⟨t,h1,h2⟩:=Af ks d;obtain⟨o1,o2⟩:=wJ (ks.take d);have hp:GV ks d=((ks.take d).flatMap gA).length:=o2.symm;rw[hp,h1,qq _ _ _ h2,o1];refine⟨by omega,?_⟩;rw[List.length_append];have:0<t.length:=by cases t with|nil=>exact absurd rfl h2|cons _ _=>exact Nat.succ_pos _
 omega
def mW:List Nat->List Bool
 | []=>[]
 |0::r=>mW r
 |1::r=>true::mW r
 |_::r=>false::mW r
def uA:List Bool->Ex
 | []=>lp ⟨1,1,[]⟩
 |true::r=>kz 17 [uA r]
 |false::r=>kz 25 [uA r]
def tM:List Bool->List Tk
 | []=>[pN]
 |true::r=>sE::tM r
 |false::r=>oQ::D4::(tM r++[GN])
theorem ot(k:Nat)(r:List Nat):mW ((k+2)::r)=false::mW r/\kO ((k+2)::r)=kz 25 [kO r]/\cz ((k+2)::r)=1+cz r:=⟨rfl,rfl,rfl⟩
theorem tj: ∀ks:List Nat,kO ks=uA (mW ks)
 | []=>rfl
 |0::r=>tj r
 |1::r=>by rw[kO,mW,uA,tj r]
 |(k+2)::r=>by rw[(ot k r).2.1,(ot k r).1,uA,tj r]
theorem ou: ∀ks:List Nat,(mW ks).length<=cz ks/\(mW ks).length<=ks.length
 | []=>⟨Nat.le_refl _,Nat.le_refl _⟩
 |0::r=>by have:=ou r;simp only[mW,cz,gT,List.length_cons];omega
 |1::r=>by have:=ou r;simp only[mW,cz,gT,List.length_cons];omega
 |(k+2)::r=>by have:=ou r;rw[(ot k r).1,(ot k r).2.2];simp only[List.length_cons];omega
theorem B7: ∀ms:List Bool,(tM ms).length<=3*ms.length+1
 | []=>Nat.le_refl _
 |true::r=>by have:=B7 r;simp only[tM,List.length_cons];omega
 |false::r=>by have:=B7 r;simp only[tM,List.length_cons,List.length_append,List.length_nil];omega
theorem tn: ∀ms:List Bool,∀x∈tM ms,dh x=true
 | [],x,hx=>by simp[tM]at hx;subst hx;exact Ae
 |true::r,x,hx=>by
  simp only[tM,List.mem_cons]at hx;rcases hx with rfl|hx
  ·exact D8
  ·exact tn r x hx
 |false::r,x,hx=>by
  simp only[tM,List.mem_cons,List.mem_append,List.not_mem_nil,or_false]at hx;rcases hx with rfl|rfl|hx|rfl
  ·exact D9
  ·exact D7
  ·exact tn r x hx
  ·exact Kt
theorem Mc(ms:List Bool):mI (di (tM ms))= .ok (bI 0 (tM ms)):=uw (tn ms)
theorem I2(ms:List Bool):3<=lz (uA ms):=by
 match ms with
 | []=>exact(by decide:(3:Int)<=rM 1 1 1)
 |true::r=>exact(by decide:(3:Int)<=rM 17 0 0)
 |false::r=>exact(by decide:(3:Int)<=rM 25 0 0)
theorem Md: ∀ms:List Bool,ga (uA ms)=(tM ms,false)
 | []=>by rw[uA,lp,ga,uy];rfl
 |true::r=>by
  rw[uA,kz,ga,uy,uy,Md r];have h:bZ ⟨tM r,false,lz (uA r),D5 (uA r)⟩ 3=tM r:=if_pos (I2 r);show(bg [110,111,116]::bZ ⟨tM r,false,lz (uA r),D5 (uA r)⟩ 3,false)=_;rw[h];rfl
 |false::r=>by
  rw[uA,kz,ga,uy,uy,Md r];rfl
section
variable {T:ke} {bB:List UInt8->Bool} {n:Nat}
theorem B8: ∀(ms:List Bool) (d i:Nat),Bg T i (tM ms)->Stop (T (i+(tM ms).length))->ms.length<=d->
  (lu T bB n d).iU i= .ok (uA ms) (i+(tM ms).length)/\(lu T bB n d).expr i= .ok (uA ms) (i+(tM ms).length)
 | [],d,i,ha,hs,hd=>GO (by unfold fM;rw[ha.hd];rfl) (by unfold fM;rw[ha.hd];rfl) (wF ha.hd) hs
 |true::r,0,i,ha,hs,hd=>absurd hd (by simp)
 |true::r,d+1,i,ha,hs,hd=>by
  obtain⟨a1,a2⟩:=Bg.app (a:=[sE]) (b:=tM r) ha;have e:i+1+(tM r).length=i+(tM (true::r)).length:=by simp only[tM,List.length_cons];omega
  have ih:=B8 r d (i+1) a2 (by rw[e];exact hs) (by simpa using hd);rw[e]at ih;exact GQ (by unfold fM;rw[a1.hd];rfl) ih.1 hs
 |false::r,0,i,ha,hs,hd=>absurd hd (by simp)
 |false::r,d+1,i,ha,hs,hd=>by
  obtain⟨a1,a2⟩:=Bg.app (a:=[oQ,D4]) (b:=tM r++[GN]) ha;obtain⟨a3,a4⟩:=Bg.app a2;have hR:=a4.hd;have ih:=B8 r d (i+2) a3 (by rw[show i+2+(tM r).length=i+[oQ,D4].length+(tM r).length from rfl,hR];exact Kr) (by simpa using hd)
  have hp:(lu T bB n (d+1)).lW i= .ok (uA (false::r)) (i+(tM (false::r)).length):=by
   rw[Ac a1.hd (a1 1 (by show 1<2;decide)),ih.2];show(dX T [41] (i+2+(tM r).length)).then _=_;rw[show dX T [41] (i+2+(tM r).length)=_ from GU hR];show cH.ok _ _=_;simp only[tM,List.length_cons,List.length_append,List.length_nil,uA];congr 1;omega
  exact GO (by unfold fM;rw[a1.hd];rfl) (by unfold fM;rw[a1.hd];rfl) hp hs
end
end
end Go.Proofs.YtbjifmbemdhndaaGreatDoor
namespace Ab
open Go
structure bR where
 nt:Nat
 code:bD
 rs:List RV
structure aL(P:Program)(f:Nat)(t:bR):Prop where
 ok: ∃fn code,P.funcs[f]? =some fn/\fn.body=some code/\eK t.code=true/\erase t.code=bW P fn.ntmps code/\nQ P fn.results.toList=some t.rs/\t.nt=fn.ntmps
theorem PD{P:Program}{f:Nat}{fn:Func}{code:Code}{t:bR}(hf:P.funcs[f]? =some fn)(hb:fn.body=some code)(ho:eK t.code=true)(hc:erase t.code=bW P fn.ntmps code)(hr:nQ P fn.results.toList=some t.rs)(hn:t.nt=fn.ntmps):aL P f t:=
 ⟨fn,code,hf,hb,ho,hc,hr,hn⟩
theorem tk{P:Program}{f:Nat}{fn:Func}{t:bR}(hf:P.funcs[f]? =some fn)(h:(eK t.code,erase t.code,nQ P fn.results.toList,t.nt,fn.body.isSome)=(true,bW P fn.ntmps (fn.body.getD .skip),some t.rs,fn.ntmps,true)):aL P f t:=by
 simp only[Prod.mk.injEq]at h;obtain⟨h1,h2,h3,h4,h5⟩:=h;obtain⟨code,h6⟩:=Option.isSome_iff_exists.1 h5;rw[h6]at h2;exact PD hf h6 h1 h2 h3 h4
theorem aL.call{P:Program}{f:Nat}{t:bR}{args:List SV}{h:Heap}{R:bV->Heap->Prop}(ht:aL P f t)(hm:P.follows .mixedOrders=true)(hn:Nat.ble args.length t.nt=true)(hp:Gw P t.code (uj t.rs R) (eL 0 args) h):aP P f args h R:=by
 obtain⟨fn,code,h1,h2,h3,h4,h5,h6⟩:=ht.ok;exact xP hm h1 h2 h3 h4 h5 (by rw[<- h6];exact hn) hp
inductive fm(P:Program):List (Nat×bR)->Prop
 |nil:fm P []
 |cons {f:Nat} {t:bR} {r:List (Nat×bR)} (h:aL P f t) (hr:fm P r):fm P ((f,t)::r)
noncomputable section
def B9(l:List (Nat×bR))(f:Nat)(k:bR->Prop):Prop:=
 @List.rec (Nat×bR) (fun _=>Prop) False (fun x _ ih=> @Bool.rec (fun _=>Prop) ih (k x.2) (Nat.beq x.1 f)) l
def GZ(Q:ck->Env->Heap->Prop)(I:Env->Heap->Prop):ck->Env->Heap->Prop
 | .normal,e,h=>I e h
 |x,e,h=>Q x e h
def lvl(P:Program)(T:List (Nat×bR))(n:Nat):bH×iO:=
 @Nat.rec (fun _=>bH×iO) (⟨fun _ _ _ _=>False,fun v v' p=>cQ (mZ 8 v v') p,fun b _ p=>cQ b p⟩,fun _ _ _ _=>False)
  (fun _ ih=>(⟨fun f a h k=>B9 T f fun t=>cQ (Nat.ble a.length t.nt) (nh P ih.1 ih.2 t.code (uj t.rs k) (eL 0 a) h),fun v v' p=>cQ (mZ 8 v v') p,fun b _ p=>cQ b p⟩,
   fun b Q e h=>nh P ih.1 ih.2 b (GZ Q (ih.2 b Q)) e h)) n
end
theorem tq(b:Bool)(q p:Prop)(h:cQ b p):(b=true\/q)/\p:=⟨.inl (ah.1 h).1,(ah.1 h).2⟩
theorem Ag{P:Program}{T:List (Nat×bR)}: ∀n v v' p,(lvl P T n).1.same v v' p->Lk v' v/\p
 |0,v,v',p,h=>by
  have h':=ah.1 (show cQ (mZ 8 v v') p from h);exact⟨fX 8 _ _ h'.1▸ .refl _,h'.2⟩
 |n+1,v,v',p,h=>by
  have h':=ah.1 (show cQ (mZ 8 v v') p from h);exact⟨fX 8 _ _ h'.1▸ .refl _,h'.2⟩
theorem qF{P:Program}: ∀ {l:List (Nat×bR)} {f:Nat} {k:bR->Prop},fm P l->B9 l f k-> ∃t,aL P f t/\k t
 | [],f,k,_,h=>h.elim
 |(g,t)::r,f,k,.cons h1 h2,h=>by
  have h': @Bool.rec (fun _=>Prop) (B9 r f k) (k t) (Nat.beq g f):=h;rcases xB h' with⟨hb,hk⟩|⟨_,hk⟩
  ·obtain rfl:=Nat.eq_of_beq_eq_true hb
   exact⟨t,h1,hk⟩
  ·exact qF h2 hk
theorem dI.Ku{P:Program}{Γ:bH}{Λ:iO}(fF:Γ.Ok P)(mb: ∀b Q e h,Λ b Q e h->dx P b Q e h){b:bD}{Q:ck->Env->Heap->Prop}{I:Env->Heap->Prop}{m:Nat}{e:Env}{h:Heap}
  (hI: ∀e h,I e h->dI P b Q m e h)(hp:nh P Γ Λ b (GZ Q I) e h):dI P b Q (m+1) e h:=by
 refine⟨fun n code oG oH hc c w a hr he hn=> ?_⟩;rw[rounds_succ];refine wp_mono (dN (n:=n) fF mb oG code b _ e h oH hc hp c w a hr he hn) fun ex a2 w2 hpost=> ?_
 obtain⟨c2,h2,e2,xx,hq,iw,hx2,jq,hn2,nq,hex⟩:=hpost;cases ex with
 |normal=>
  cases xx<;>try exact hex.elim
  simp only[Exit.then];have:=(hI _ _ hq).run n code oG oH hc c2 w2 a2 iw jq hn2;rw[nq]at this;exact kH (fun _ _ _ ru=>ru.of hr hx2) m this
 |exit i=>cases xx<;>first|exact hex.elim|exact⟨c2,h2,e2,_,hq,iw,hx2,jq,hn2,nq,hex⟩
 |goto l=>cases xx<;>exact hex.elim
 |ret=>cases xx<;>first|exact hex.elim|exact⟨c2,h2,e2,_,hq,iw,hx2,jq,hn2,nq,hex⟩
 |panic ch=>cases xx<;>first|exact hex.elim|exact⟨c2,h2,e2,_,hq,iw,hx2,jq,hn2,nq,hex⟩
 |outgrown=>cases xx<;>exact hex.elim
theorem rO{P:Program}{T:List (Nat×bR)}(hm:P.follows .mixedOrders=true)(hT:fm P T): ∀n,(lvl P T n).1.Ok P/\(∀ b Q e h,(lvl P T n).2 b Q e h->dI P b Q n e h)
 |0=>⟨⟨fun _ _ _ _ h=>h.elim,Ag 0,tq⟩,fun _ _ _ _ h=>h.elim⟩
 |n+1=>by
  obtain⟨ih1,ih2⟩:=rO hm hT n;have mb: ∀b Q e h,(lvl P T n).2 b Q e h->dx P b Q e h:=fun b Q e h hp=>cW n (ih2 b Q e h hp)
  refine⟨⟨fun f a h k hp=> ?_,Ag (n+1),tq⟩,fun b Q e h hp=>dI.Ku ih1 mb (fun e h hp=>ih2 b Q e h hp) hp⟩;have hp':B9 T f fun t=>cQ (Nat.ble a.length t.nt) (nh P (lvl P T n).1 (lvl P T n).2 t.code (uj t.rs k) (eL 0 a) h):=hp
  obtain⟨t,⟨fn,code,hf,hb,ho,hc,hr,hn⟩,hp'⟩:=qF hT hp'
  replace hp':=ah.1 hp'
  exact kZ ih1 mb hm hf hb ho hc hr (by rw[<- hn];exact hp'.1) hp'.2
end Ab
namespace Go.Proofs.YtbjifmbemdhndaaGreatDoor
open Ab Go.RowKit
theorem uB{x:Int}(h: -9223372036854775808<=x)(h':x<=9223372036854775807):IntKind.i64.wrap x=x:=by rw[IntKind.wrap_i64];omega
theorem bL{n:Nat}(h':n<9223372036854775807):IntKind.i64.wrap ((n:Int)+1)=((n+1:Nat):Int):=by rw[uB (by omega) (by omega)];omega
end Go.Proofs.YtbjifmbemdhndaaGreatDoor
