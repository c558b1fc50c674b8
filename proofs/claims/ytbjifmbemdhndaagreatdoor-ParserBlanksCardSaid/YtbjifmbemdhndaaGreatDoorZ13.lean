/- Parts of the proof of PParserBlanks, one behind the other, with short names. -/
import Derived.Test.YtbjifmbemdhndaaGreatDoorZ12
set_option linter.unusedVariables false
set_option linter.unusedSimpArgs false
namespace Ab
open Go
section
def bw.use:bw->List Nat
 | .tmp t=>[t]
 | .const _=>[]
def vV:Option bw->List Nat
 |some x=>x.use
 |none=>[]
def pZ.uses:pZ->List Nat
 | .bI x| .box _ _ x| .mJ _ _ x| .bz x| .cx _ x| .un _ x| .conv _ x| .qN x| .toStr x| .p4 _ x| .eu _ x| .fieldAddr _ x| .nQ _ x| .qO _ _ x| .extract x _| .len _ x| .panic x| .aU x| .ua x| .mo _ _ x| .uf x| .iD x| .rK x| .s9 x| .xQ x| .qP x| .vw x| .entry x| .CJ x| .As _ _ _ x| .ng _ x| .Qz _ _ x=>x.use
 | .pick c a b=>c.use++(a.use++b.use)
 | .build _ parts=>parts.flatMap fun p=>p.2.2.use
 | .buildSlice _ _ _ _ parts=>parts.flatMap fun p=>p.2.use
 | .store _ x v=>x.use++v.use
 | .bin _ x y| .vv _ _ x y| .FO _ x y| .JN _ x y| .s6 _ x y| .Ar _ x y| .xR x y| .index x y| .mm _ x y| .Hs _ x y| .Lo _ x y| .iJ _ _ _ x y=>x.use++y.use
 | .ck _ m x v=>m.use++(x.use++v.use)
 | .slice3 _ x lo hi mx=>x.use++(vV lo++(vV hi++mx.use))
 | .mkMap| .Lp=>[]
 | .Ht f args=>f.use++args.flatMap bw.use
 | .indexAddr _ x y| .eg _ _ x y| .makeSlice _ _ _ _ x y| .append _ _ _ x y=>x.use++y.use
 | .dH _ a b=>a.flatMap bw.use++b.flatMap bw.use
 | .slice _ x lo hi| .cJ x lo hi| .iI _ x lo hi=>x.use++(vV lo++vV hi)
 | .call _ args=>args.flatMap bw.use
 | .lC f args=>f.use++args.flatMap bw.use
 | .bad=>[]
def pZ.cls:pZ->Nat
 | .bI _| .pick .. | .build .. | .bin .. | .vv .. | .FO .. | .un .. | .conv .. | .qN _| .dH .. | .eu .. | .cJ .. | .nQ .. | .qO .. | .index .. | .extract .. | .mm .. | .uf _| .Ar .. | .As .. | .Hs .. | .bad=>0
 | .bz _| .cx .. | .slice .. | .fieldAddr .. | .indexAddr .. | .eg .. | .len .. | .toStr .. | .aU .. | .ua .. | .mo .. | .JN .. | .iD .. | .rK .. | .iJ .. | .CJ .. | .slice3 .. | .Lo .. =>1
 |_=>2
section
variable {P:Program} {Γ:bZ} {e e':Env} {h:Heap} {k:SV->Heap->Prop} {kp:SV->Heap->Prop}
theorem ej{x:bw}(hE: ∀t∈x.use,Env.get e t=Env.get e' t):x.ev e=x.ev e':=by
 cases x with
 |tmp t=>exact hE t (by simp[bw.use])
 |const v=>rfl
theorem nk: ∀ {l:List bw},(∀ t∈l.flatMap bw.use,Env.get e t=Env.get e' t)->l.map (bw.ev e)=l.map (bw.ev e')
 | [],_=>rfl
 |x::r,hE=>by
  simp only[List.flatMap_cons,List.mem_append]at hE;rw[List.map_cons,List.map_cons,ej fun t ht=>hE t (.inl ht),nk fun t ht=>hE t (.inr ht)]
theorem nq{d:Int}{x:Option bw}{K:Int->Prop}(hE: ∀t∈vV x,Env.get e t=Env.get e' t):gS e d x K=gS e' d x K:=by
 cases x with
 |none=>rfl
 |some x=>simp only[gS,aM,ej (x:=x) hE]
theorem uu: ∀ {l:List (Nat×Nat×bw)} {cs:List SV} {K:List SV->Prop},(∀ t∈l.flatMap (fun p=>p.2.2.use),Env.get e t=Env.get e' t)->gf e l cs K=gf e' l cs K
 | [],_,_,_=>rfl
 |(off,sz,x)::r,cs,K,hE=>by
  simp only[List.flatMap_cons,List.mem_append]at hE;simp only[gf,aM,ej (x:=x) fun t ht=>hE t (.inl ht),uu (l:=r) fun t ht=>hE t (.inr ht)]
theorem mB{sz:Nat}: ∀ {l:List (Nat×bw)} {cs:List SV} {K:List SV->Prop},(∀ t∈l.flatMap (fun p=>p.2.use),Env.get e t=Env.get e' t)->fF sz e l cs K=fF sz e' l cs K
 | [],_,_,_=>rfl
 |(i,x)::r,cs,K,hE=>by
  simp only[List.flatMap_cons,List.mem_append]at hE;simp only[fF,aM,ej (x:=x) fun t ht=>hE t (.inl ht),mB (l:=r) fun t ht=>hE t (.inr ht)]
theorem yb{o:pZ}(hE: ∀t∈o.uses,Env.get e t=Env.get e' t):bR P Γ o e h k kp=bR P Γ o e' h k kp:=by
 cases o with
 |s9 x|xQ x|qP x|vw x|entry x|CJ x|As _ _ _ x|bI x|box _ _ x|mJ _ _ x|aU x|ua x|mo _ _ x|uf x|iD x|rK x|ng _ x|Qz _ _ x|bz x|cx _ x|un _ x|conv _ x|qN x|eu _ x|fieldAddr _ x|nQ _ x|qO _ _ x|extract x _|len _ x|panic x=>
  simp only[bR,aM,ej (x:=x) hE]
 |toStr x|p4 _ x=>simp only[bR,aM,ej (x:=x) hE]
 |pick c a b=>
  simp only[pZ.uses,List.mem_append]at hE;simp only[bR,aM,ej (x:=c) fun t ht=>hE t (.inl ht),ej (x:=a) fun t ht=>hE t (.inr (.inl ht)),ej (x:=b) fun t ht=>hE t (.inr (.inr ht))]
 |build z parts=>simp only[bR];exact uu hE
 |buildSlice ty sz z n parts=>simp only[bR,kq];exact mB hE
 |store n x y|bin _ x y|vv _ _ x y|FO _ x y|JN _ x y|s6 _ x y|Ar _ x y|xR x y|Hs _ x y|Lo _ x y|iJ _ _ _ x y|index x y|mm _ x y|indexAddr _ x y|eg _ _ x y|makeSlice _ _ _ _ x y|append _ _ _ x y=>
  simp only[pZ.uses,List.mem_append]at hE;simp only[bR,aM,ej (x:=x) fun t ht=>hE t (.inl ht),ej (x:=y) fun t ht=>hE t (.inr ht)]
 |ck _ m x v=>
  simp only[pZ.uses,List.mem_append]at hE;simp only[bR,aM,ej (x:=m) fun t ht=>hE t (.inl ht),ej (x:=x) fun t ht=>hE t (.inr (.inl ht)),ej (x:=v) fun t ht=>hE t (.inr (.inr ht))]
 |slice3 sz x lo hi mx=>
  simp only[pZ.uses,List.mem_append]at hE;simp only[bR,aM,ej (x:=x) fun t ht=>hE t (.inl ht),nq (x:=lo) fun t ht=>hE t (.inr (.inl ht)),nq (x:=hi) fun t ht=>hE t (.inr (.inr (.inl ht))),nq (x:=some mx) fun t ht=>hE t (.inr (.inr (.inr ht)))]
 |mkMap|Lp|Ht _ _=>rfl
 |dH fn a b=>
  simp only[pZ.uses,List.mem_append]at hE;simp only[bR,kS,nk (l:=a) fun t ht=>hE t (.inl ht),nk (l:=b) fun t ht=>hE t (.inr ht)]
 |slice sz x lo hi|cJ x lo hi|iI n x lo hi=>
  simp only[pZ.uses,List.mem_append]at hE;simp only[bR,aM,ej (x:=x) fun t ht=>hE t (.inl ht),nq (x:=lo) fun t ht=>hE t (.inr (.inl ht)),nq (x:=hi) fun t ht=>hE t (.inr (.inr ht))]
 |call f args=>simp only[bR,kS,nk (l:=args) hE]
 |lC f args=>
  simp only[pZ.uses,List.mem_append]at hE;simp only[bR,aM,kS,ej (x:=f) fun t ht=>hE t (.inl ht),nk (l:=args) fun t ht=>hE t (.inr ht)]
 |bad=>rfl
theorem nY{v:SV}{p:List SV->Prop}(h:v.gR p):p v.cells/\ ∀q:List SV->Prop,q v.cells->v.gR q:=by
 obtain⟨hu,hp⟩:=dI.1 h;exact⟨hp,fun q hq=>dI.2 ⟨hu,hq⟩⟩
theorem yc{p:SV}{K:List SV->Nat->Prop}(hp:mq h p K): ∃cs sub,K cs sub/\ ∀K':List SV->Nat->Prop,K' cs sub->mq h p K':=by
 unfold mq at hp;split at hp
 ·obtain⟨h1,h2⟩:=nY hp
  exact⟨_,_,h1,fun K' hk=>by unfold mq;exact h2 _ hk⟩
 ·rename_i g
  split at hp
  ·rename_i v hv
   obtain⟨h1,h2⟩:=nY hp;exact⟨_,_,h1,fun K' hk=>by unfold mq;simp only[hv];exact h2 _ hk⟩
  ·exact hp.elim
 ·rename_i i g idx sub
  obtain⟨n,l⟩:=h;simp only[bC]at hp;split at hp
  ·rename_i o ho
   split at hp
   ·rename_i g' sz elems sk
    replace hp:=av.1 hp
    obtain⟨hg,hp⟩:=hp;split at hp
    ·rename_i v hv
     obtain⟨h1,h2⟩:=nY hp;refine⟨_,_,h1,fun K' hk=> ?_⟩;unfold mq;simp only[bC,ho,hv];exact av.2 ⟨hg,h2 _ hk⟩
    ·exact hp.elim
   ·exact hp.elim
  ·exact hp.elim
 ·exact hp.elim
theorem Gg{op:BinOp}{a b:IntKind}{x y:Int}{K:SV->Prop}(hp:arith op a b x y K): ∃v,K v/\ ∀K':SV->Prop,K' v->arith op a b x y K':=by
 unfold arith at hp;split at hp
 ·replace hp:=av.1 hp;exact⟨_,hp.2,fun K' hk=>av.2 ⟨hp.1,hk⟩⟩
 ·replace hp:=av.1 hp;exact⟨_,hp.2,fun K' hk=>av.2 ⟨hp.1,hk⟩⟩
 ·rename_i hs1 hs2
  replace hp:=av.1 hp
  obtain⟨h1,hp⟩:=hp
  have hrw: ∀K':SV->Prop,arith op a b x y K'=dO (Lq a b) (match op with
   | .add=>K' (.int a (a.wrap (x+y)))
   | .sub=>K' (.int a (a.wrap (x-y)))
   | .mul=>K' (.int a (a.wrap (x*y)))
   | .quo=>dO (!decide (y=0)) (K' (.int a (a.wrap (x.tdiv y))))
   | .rem=>dO (!decide (y=0)) (K' (.int a (x.tmod y)))
   | .eql=>K' (.bool (x==y))
   | .neq=>K' (.bool (x !=y))
   | .lss=>K' (.bool (decide (x<y)))
   | .leq=>K' (.bool (decide (x<=y)))
   | .gtr=>K' (.bool (decide (y<x)))
   | .geq=>K' (.bool (decide (y<=x)))
   | .and=>K' (.int a (kO .and a x y))
   | .or=>K' (.int a (kO .or a x y))
   | .xor=>K' (.int a (kO .xor a x y))
   | .andNot=>K' (.int a (kO .andNot a x y))
   |_=>False):=fun K'=>by cases op<;>first|rfl|exact absurd rfl hs1|exact absurd rfl hs2
  cases op<;>first
   |exact absurd rfl hs1
   |exact absurd rfl hs2
   |(exact⟨_,hp,fun K' hk=>by rw[hrw];exact av.2 ⟨h1,hk⟩⟩)
   |(replace hp:=av.1 hp;exact⟨_,hp.2,fun K' hk=>by rw[hrw];exact av.2 ⟨h1,av.2 ⟨hp.1,hk⟩⟩⟩)
theorem Gh{op:BinOp}{x y:List UInt8}{K:SV->Prop}(hp:xS op x y K): ∃v,K v/\ ∀K':SV->Prop,K' v->xS op x y K':=by
 cases op<;>simp only[xS]at hp ⊢ <;>first
  |exact hp.elim
  |exact⟨_,hp,fun K' hk=>hk⟩
  |(replace hp:=av.1 hp;exact⟨_,hp.2,fun K' hk=>av.2 ⟨hp.1,hk⟩⟩)
theorem yd: ∀ {l:List (Nat×Nat×bw)} {cs:List SV} {K:List SV->Prop},gf e l cs K-> ∃cs',K cs'/\ ∀K':List SV->Prop,K' cs'->gf e l cs K'
 | [],cs,K,hp=>⟨cs,hp,fun K' hk=>hk⟩
 |(off,sz,x)::r,cs,K,hp=>by
  simp only[gf,aM]at hp ⊢;obtain⟨h1,h2⟩:=nY hp
  replace h1:=av.1 h1
  obtain⟨h3,h1⟩:=h1;obtain⟨h4,h1⟩:=fy.1 h1;obtain⟨cs',hk,hd⟩:=yd h1;exact⟨cs',hk,fun K' hk'=>h2 _ (av.2 ⟨h3,fy.2 ⟨h4,hd K' hk'⟩⟩)⟩
theorem fk{d:Int}{x:Option bw}{K:Int->Prop}(hp:gS e d x K): ∃n,K n/\ ∀K':Int->Prop,K' n->gS e d x K':=by
 cases x with
 |none=>exact⟨d,hp,fun K' hk=>hk⟩
 |some x=>
  simp only[gS,aM]at hp ⊢;split at hp
  ·exact⟨_,hp,fun K' hk=>hk⟩
  ·exact hp.elim
theorem HQ{i g idx sub j sz:Nat}{K:SV->Prop}(hp:Hu h i g idx sub j sz K): ∃v,K v/\ ∀K':SV->Prop,K' v->Hu h i g idx sub j sz K':=by
 obtain⟨n,l⟩:=h;simp only[Hu,bC]at hp ⊢;split at hp
 ·rename_i o ho
  split at hp
  ·rename_i g' sz' elems sk
   replace hp:=av.1 hp
   obtain⟨hg,hp⟩:=hp;cases hs:Nat.beq sz' sz
   ·rw[hs]at hp
    exact⟨_,hp,fun K' hk=>by simp only[ho];exact av.2 ⟨hg,hk⟩⟩
   ·rw[hs]at hp
    exact⟨_,hp,fun K' hk=>by simp only[ho];exact av.2 ⟨hg,hk⟩⟩
  ·exact hp.elim
 ·exact hp.elim
theorem gj{i g:Nat}{p:Prop}(hp:gx h i g p):p/\ ∀q:Prop,q->gx h i g q:=by
 obtain⟨hp',sz,elems,sk,ho⟩:=fc hp;refine⟨hp',fun q hq=> ?_⟩;obtain⟨n,l⟩:=h;unfold gx;simp only[bC];have ho':aV l i=some (.vec g sz elems sk):=ho;rw[ho'];exact av.2 ⟨by simp,hq⟩
theorem Bd{x y:SV}{K:Bool->Prop}(hp:Hw h x y K): ∃b,K b/\ ∀K':Bool->Prop,K' b->Hw h x y K':=by
 unfold Hw at hp ⊢;split at hp
 ·exact⟨_,hp,fun K' hk=>hk⟩
 ·obtain⟨hp,dl⟩:=gj hp;exact⟨_,hp,fun K' hk=>dl _ hk⟩
 ·obtain⟨hp,dl⟩:=gj hp;exact⟨_,hp,fun K' hk=>dl _ hk⟩
 ·replace hp:=av.1 hp
  obtain⟨h1,hp⟩:=hp;obtain⟨hp,dl⟩:=gj hp;exact⟨_,hp,fun K' hk=>av.2 ⟨h1,dl _ hk⟩⟩
 ·exact hp.elim
theorem Df{sz:Nat}{x:SV}{K:List SV->Prop}(hp:mK h sz x K): ∃xs,K xs/\ ∀K':List SV->Prop,K' xs->mK h sz x K':=by
 unfold mK at hp ⊢;split at hp
 ·exact⟨_,hp,fun K' hk=>hk⟩
 ·replace hp:=av.1 hp
  obtain⟨h1,hp⟩:=hp;rw[p9]at hp;exact⟨_,hp,fun K' hk=>av.2 ⟨h1,by rw[p9];exact hk⟩⟩
 ·replace hp:=av.1 hp
  obtain⟨h1,hp⟩:=hp;rw[p8]at hp;exact⟨_,hp,fun K' hk=>av.2 ⟨h1,by rw[p8];exact hk⟩⟩
 ·replace hp:=av.1 hp
  obtain⟨h1,hp⟩:=hp;obtain⟨n,l⟩:=h;simp only[bC]at hp;split at hp
  ·rename_i ob cK
   split at hp
   ·replace hp:=av.1 hp
    obtain⟨h2,hp⟩:=hp;obtain⟨h3,hp⟩:=eM.1 hp;obtain⟨h4,hp⟩:=dN.1 hp;refine⟨_,hp,fun K' hk=>av.2 ⟨h1,?_⟩⟩;simp only[bC,cK];exact av.2 ⟨h2,eM.2 ⟨h3,dN.2 ⟨h4,hk⟩⟩⟩
   ·exact hp.elim
  ·exact hp.elim
 ·exact hp.elim
theorem ye{kk:SV}: ∀ {es:List (SV×SV×Nat)} {i:Nat} {K:Option (Nat×SV)->Prop},qz kk es i K-> ∃r,K r/\ ∀K':Option (Nat×SV)->Prop,K' r->qz kk es i K'
 | [],i,K,hp=>⟨none,hp,fun K' hk=>hk⟩
 |(a,v,s)::r,i,K,hp=>by
  unfold qz at hp;split at hp
  ·rename_i b hb
   rcases zf hp with⟨rfl,hp⟩|⟨rfl,hp⟩
   ·exact⟨_,hp,fun K' hk=>by unfold qz;rw[hb];exact hk⟩
   ·obtain⟨r',h1,h2⟩:=ye hp
    exact⟨r',h1,fun K' hk=>by unfold qz;rw[hb];exact h2 K' hk⟩
  ·exact hp.elim
theorem Be{o:pZ}(hc:o.cls=0)(hp:bR P Γ o e h k kp): ∃v,k v h/\ ∀(h':Heap) (K' fG:SV->Heap->Prop),K' v h'->bR P Γ o e h' K' fG:=by
 cases o<;>simp only[pZ.cls,reduceCtorEq]at hc<;>try omega
 case bI x=>simp only[bR,aM]at hp ⊢;exact⟨_,hp,fun h' K' fG hk=>hk⟩
 case pick c a b=>
  simp only[bR,aM]at hp ⊢;split at hp
  ·rename_i x _
   cases x
   ·exact⟨_,hp,fun h' K' fG hk=>hk⟩
   ·exact⟨_,hp,fun h' K' fG hk=>hk⟩
  ·exact hp.elim
 case build z parts=>
  simp only[bR]at hp ⊢;obtain⟨cs,hk,hd⟩:=yd hp;exact⟨_,hk,fun h' K' fG hk'=>hd _ hk'⟩
 case bin op x y=>
  simp only[bR,aM]at hp ⊢;split at hp
  ·obtain⟨v,hk,hd⟩:=Gg hp;exact⟨v,hk,fun h' K' fG hk'=>hd _ hk'⟩
  ·obtain⟨v,hk,hd⟩:=Gh hp;exact⟨v,hk,fun h' K' fG hk'=>hd _ hk'⟩
  ·exact hp.elim
 case vv neg ks x y=>
  simp only[bR,aM]at hp ⊢;split at hp
  ·split at hp
   ·rename_i p hq
    cases neg<;>exact⟨_,hp,fun h' K' fG hk=>by simpa only[hq]using hk⟩
   ·exact hp.elim
  ·exact hp.elim
 case FO neg x y=>
  simp only[bR,aM]at hp ⊢;split at hp
  ·cases neg<;>exact⟨_,hp,fun h' K' fG hk=>hk⟩
  ·exact hp.elim
 case un op x=>
  simp only[bR,aM]at hp ⊢;split at hp<;>first|exact⟨_,hp,fun h' K' fG hk=>hk⟩|exact hp.elim
 case conv kk x=>
  simp only[bR,aM]at hp ⊢;split at hp<;>first|exact⟨_,hp,fun h' K' fG hk=>hk⟩|exact hp.elim
 case qN x=>
  simp only[bR,aM]at hp ⊢;split at hp<;>first|exact⟨_,hp,fun h' K' fG hk=>hk⟩|exact hp.elim
 case dH fn a b=>simp only[bR,kS]at hp ⊢;exact⟨_,hp,fun h' K' fG hk=>hk⟩
 case eu t x=>simp only[bR,aM]at hp ⊢;exact⟨_,hp,fun h' K' fG hk=>hk⟩
 case cJ x lo hi=>
  simp only[bR,aM]at hp ⊢;split at hp
  ·obtain⟨l,h1,d1⟩:=fk hp
   obtain⟨hh,h2,d2⟩:=fk h1
   replace h2:=av.1 h2
   exact⟨_,h2.2,fun h' K' fG hk=>d1 _ (d2 _ (av.2 ⟨h2.1,hk⟩))⟩
  ·exact hp.elim
 case nQ off x=>
  simp only[bR,aM]at hp ⊢;split at hp
  ·split at hp
   ·rename_i v hv;exact⟨_,hp,fun h' K' fG hk=>by simpa only[hv]using hk⟩
   ·exact hp.elim
  ·exact hp.elim
 case qO off n x=>
  simp only[bR,aM]at hp ⊢;split at hp
  ·obtain⟨h1,hp⟩:=eM.1 hp
   obtain⟨h2,hp⟩:=dN.1 hp;exact⟨_,hp,fun h' K' fG hk=>eM.2 ⟨h1,dN.2 ⟨h2,hk⟩⟩⟩
  ·exact hp.elim
 case index x i=>
  simp only[bR,aM]at hp ⊢;split at hp
  ·replace hp:=av.1 hp;exact⟨_,hp.2,fun h' K' fG hk=>av.2 ⟨hp.1,hk⟩⟩
  ·exact hp.elim
 case extract x i=>
  simp only[bR,aM]at hp ⊢;split at hp
  ·split at hp
   ·rename_i v hv;exact⟨_,hp,fun h' K' fG hk=>by simpa only[hv]using hk⟩
   ·exact hp.elim
  ·exact hp.elim
 case mm m x y=>
  simp only[bR,aM]at hp ⊢;split at hp
  ·cases m<;>exact⟨_,hp,fun h' K' fG hk=>hk⟩
  ·exact hp.elim
 case Ar id x y=>
  simp only[bR,aM]at hp ⊢;split at hp
  ·exact⟨_,hp,fun h' K' fG hk=>hk⟩
  ·exact hp.elim
 case As t z ok x=>
  simp only[bR,aM]at hp ⊢;split at hp
  ·rename_i u v _
   rcases zf hp with⟨hb,hp⟩|⟨hb,hp⟩<;>rw[hb]<;>cases ok<;>first|exact hp.elim|exact⟨_,hp,fun h' K' fG hk=>hk⟩
  ·cases ok<;>first|exact hp.elim|exact⟨_,hp,fun h' K' fG hk=>hk⟩
  ·exact hp.elim
 case Hs neg x y=>
  simp only[bR,aM]at hp ⊢;split at hp<;>first|exact hp.elim|(cases neg<;>exact⟨_,hp,fun h' K' fG hk=>hk⟩)
 case uf x=>simp only[bR,aM]at hp ⊢;exact⟨_,hp,fun h' K' fG hk=>hk⟩
 case bad=>exact hp.elim
theorem vW{o:pZ}(hc:o.cls<=1)(hp:bR P Γ o e h k kp): ∃v,k v h/\ ∀(K' fG:SV->Heap->Prop),K' v h->bR P Γ o e h K' fG:=by
 rcases Nat.lt_or_ge o.cls 1 with h0|h1
 ·obtain⟨v,hk,hd⟩:=Be (by omega) hp
  exact⟨v,hk,fun K' fG hk'=>hd h K' fG hk'⟩
 have hc:o.cls=1:=by omega
 clear h1;cases o<;>simp only[pZ.cls,reduceCtorEq]at hc<;>try omega
 case bz x=>
  simp only[bR,aM]at hp ⊢;obtain⟨cs,sub,hk,hd⟩:=yc hp;split at hk
  ·rename_i v hv;exact⟨_,hk,fun K' fG hk'=>hd _ (by simpa only[hv]using hk')⟩
  ·exact hk.elim
 case cx n x=>
  simp only[bR,aM]at hp ⊢;obtain⟨cs,sub,hk,hd⟩:=yc hp;obtain⟨h1,hk⟩:=eM.1 hk;obtain⟨h2,hk⟩:=dN.1 hk;exact⟨_,hk,fun K' fG hk'=>hd _ (eM.2 ⟨h1,dN.2 ⟨h2,hk'⟩⟩)⟩
 case slice sz x lo hi=>
  simp only[bR,aM]at hp ⊢;split at hp
  ·replace hp:=av.1 hp
   obtain⟨ha,hp⟩:=hp;obtain⟨l,h1,d1⟩:=fk hp;obtain⟨hh,h2,d2⟩:=fk h1
   replace h2:=av.1 h2
   exact⟨_,h2.2,fun K' fG hk=>av.2 ⟨ha,d1 _ (d2 _ (av.2 ⟨h2.1,hk⟩))⟩⟩
  ·rename_i cap _
   replace hp:=av.1 hp
   obtain⟨ha,hp⟩:=hp;obtain⟨hp,dl⟩:=gj hp;obtain⟨l,h1,d1⟩:=fk hp;obtain⟨hh,h2,d2⟩:=fk h1
   replace h2:=av.1 h2
   obtain⟨hb,h2⟩:=h2;cases cap with
   |none=>
    replace h2:=av.1 h2
    exact⟨_,h2.2,fun K' fG hk=>av.2 ⟨ha,dl _ (d1 _ (d2 _ (av.2 ⟨hb,av.2 ⟨h2.1,hk⟩⟩)))⟩⟩
   |some c=>
    replace h2:=av.1 h2
    exact⟨_,h2.2,fun K' fG hk=>av.2 ⟨ha,dl _ (d1 _ (d2 _ (av.2 ⟨hb,av.2 ⟨h2.1,hk⟩⟩)))⟩⟩
  ·obtain⟨l,h1,d1⟩:=fk hp
   obtain⟨hh,h2,d2⟩:=fk h1
   replace h2:=av.1 h2
   exact⟨_,h2.2,fun K' fG hk=>d1 _ (d2 _ (av.2 ⟨h2.1,hk⟩))⟩
  ·exact hp.elim
 case slice3 sz x lo hi mx=>
  simp only[bR,aM]at hp ⊢;split at hp
  ·replace hp:=av.1 hp
   obtain⟨ha,hp⟩:=hp;obtain⟨l,h1,d1⟩:=fk hp;obtain⟨hh,h2,d2⟩:=fk h1;obtain⟨mm,h3,d3⟩:=fk h2
   replace h3:=av.1 h3
   exact⟨_,h3.2,fun K' fG hk=>av.2 ⟨ha,d1 _ (d2 _ (d3 _ (av.2 ⟨h3.1,hk⟩)))⟩⟩
  ·replace hp:=av.1 hp
   obtain⟨ha,hp⟩:=hp;obtain⟨hp,dl⟩:=gj hp;obtain⟨l,h1,d1⟩:=fk hp;obtain⟨hh,h2,d2⟩:=fk h1;obtain⟨mm,h3,d3⟩:=fk h2
   replace h3:=av.1 h3
   exact⟨_,h3.2,fun K' fG hk=>av.2 ⟨ha,dl _ (d1 _ (d2 _ (d3 _ (av.2 ⟨h3.1,hk⟩))))⟩⟩
  ·obtain⟨l,h1,d1⟩:=fk hp
   obtain⟨hh,h2,d2⟩:=fk h1;obtain⟨mm,h3,d3⟩:=fk h2
   replace h3:=av.1 h3
   exact⟨_,h3.2,fun K' fG hk=>d1 _ (d2 _ (d3 _ (av.2 ⟨h3.1,hk⟩)))⟩
  ·exact hp.elim
 case iJ z ok m x _=>
  simp only[bR,aM]at hp ⊢;obtain⟨n,l⟩:=h;split at hp
  ·rename_i hev
   replace hp:=av.1 hp
   cases ok<;>exact⟨_,hp.2,fun K' fG hk=>av.2 ⟨hp.1,hk⟩⟩
  ·rename_i i g n' l' hev hh
   cases hh
   simp only[bC]at hp ⊢;split at hp
   ·rename_i ob cK
    split at hp
    ·rename_i es cl
     replace hp:=av.1 hp
     obtain⟨r,hk,hd⟩:=ye hp.2;cases r with
     |none=>cases ok<;>exact⟨_,hk,fun K' fG hk'=>av.2 ⟨hp.1,hd _ hk'⟩⟩
     |some p=>cases ok<;>exact⟨_,hk,fun K' fG hk'=>av.2 ⟨hp.1,hd _ hk'⟩⟩
    ·exact hp.elim
   ·exact hp.elim
  ·exact hp.elim
 case CJ x=>
  simp only[bR,aM]at hp ⊢;obtain⟨n,l⟩:=h;split at hp
  ·rename_i hev
   exact⟨_,hp,fun K' fG hk=>hk⟩
  ·rename_i i g n' l' hev hh
   cases hh
   simp only[bC]at hp ⊢;split at hp
   ·rename_i ob cK
    split at hp
    ·rename_i es cl
     replace hp:=av.1 hp
     exact⟨_,hp.2,fun K' fG hk'=>av.2 ⟨hp.1,hk'⟩⟩
    ·exact hp.elim
   ·exact hp.elim
  ·exact hp.elim
 case fieldAddr off x=>
  simp only[bR,aM]at hp ⊢;split at hp
  ·obtain⟨hp,dl⟩:=gj hp;exact⟨_,hp,fun K' fG hk=>dl _ hk⟩
  ·exact⟨_,hp,fun K' fG hk=>hk⟩
  ·exact hp.elim
 case indexAddr sz x i=>
  simp only[bR,aM]at hp ⊢;split at hp
  ·replace hp:=av.1 hp
   obtain⟨ha,hp⟩:=hp
   replace hp:=av.1 hp
   exact⟨_,hp.2,fun K' fG hk=>av.2 ⟨ha,av.2 ⟨hp.1,hk⟩⟩⟩
  ·replace hp:=av.1 hp
   obtain⟨ha,hp⟩:=hp;obtain⟨hp,dl⟩:=gj hp
   replace hp:=av.1 hp
   exact⟨_,hp.2,fun K' fG hk=>av.2 ⟨ha,dl _ (av.2 ⟨hp.1,hk⟩)⟩⟩
  ·exact hp.elim
 case eg n sz x i=>
  simp only[bR,aM]at hp ⊢;split at hp
  ·replace hp:=av.1 hp
   obtain⟨ha,hp⟩:=hp;obtain⟨v,hk,hd⟩:=HQ hp;exact⟨_,hk,fun K' fG hk'=>av.2 ⟨ha,hd (fun v=>K' v h) hk'⟩⟩
  ·replace hp:=av.1 hp
   obtain⟨ha,hp⟩:=hp;split at hp
   ·rename_i v hv
    exact⟨_,hp,fun K' fG hk=>av.2 ⟨ha,hk⟩⟩
   ·exact hp.elim
  ·replace hp:=av.1 hp
   exact⟨_,hp.2,fun K' fG hk=>av.2 ⟨hp.1,hk⟩⟩
  ·exact hp.elim
 case Lo neg x y _=>
  cases neg<;>simp only[bR,aM]at hp ⊢ <;>split at hp<;>first
   |exact hp.elim
   |exact⟨_,hp,fun K' fG hk=>hk⟩
   |(obtain⟨hp,dl⟩:=gj hp;exact⟨_,hp,fun K' fG hk=>dl _ hk⟩)
   |(replace hp:=av.1 hp;exact⟨_,hp.2,fun K' fG hk=>av.2 ⟨hp.1,hk⟩⟩)
 case aU x=>
  simp only[bR,aM]at hp ⊢;split at hp
  ·obtain⟨hp,dl⟩:=gj hp;exact⟨_,hp,fun K' fG hk=>dl _ hk⟩
  ·exact⟨_,hp,fun K' fG hk=>hk⟩
  ·exact⟨_,hp,fun K' fG hk=>hk⟩
  ·exact hp.elim
 case rK x=>
  simp only[bR,aM]at hp ⊢;split at hp
  ·exact⟨_,hp,fun K' fG hk=>hk⟩
  ·obtain⟨hp,dl⟩:=gj hp;exact⟨_,hp,fun K' fG hk=>dl _ hk⟩
  ·exact hp.elim
 case iD x=>
  simp only[bR,aM]at hp ⊢;split at hp
  ·exact⟨_,hp,fun K' fG hk=>hk⟩
  ·replace hp:=av.1 hp
   obtain⟨h1,hp⟩:=hp;obtain⟨hp,dl⟩:=xW hp;exact⟨_,hp,fun K' fG hk=>av.2 ⟨h1,dl _ hk⟩⟩
  ·exact hp.elim
 case ua x=>
  obtain⟨n,l⟩:=h;simp only[bR,aM]at hp ⊢;split at hp
  ·exact⟨_,hp,fun K' fG hk=>hk⟩
  ·rename_i hh
   cases hh
   simp only[bC]at hp;split at hp
   ·rename_i ob cK
    split at hp
    ·replace hp:=av.1 hp
     exact⟨_,hp.2,fun K' fG hk=>by simp only[bC,cK];exact av.2 ⟨hp.1,hk⟩⟩
    ·exact hp.elim
   ·exact hp.elim
  ·exact hp.elim
 case mo u sz x=>
  obtain⟨n,l⟩:=h;simp only[bR,aM]at hp ⊢;split at hp
  ·exact⟨_,hp,fun K' fG hk=>hk⟩
  ·rename_i hh
   cases hh
   simp only[bC]at hp;split at hp
   ·rename_i ob cK
    split at hp
    ·replace hp:=av.1 hp
     exact⟨_,hp.2,fun K' fG hk=>by simp only[bC,cK];exact av.2 ⟨hp.1,hk⟩⟩
    ·exact hp.elim
   ·exact hp.elim
  ·exact hp.elim
 case JN neg x y _=>
  simp only[bR,aM]at hp ⊢;cases neg
  ·obtain⟨b,hk,hd⟩:=Bd hp
   exact⟨_,hk,fun K' fG hk'=>hd _ hk'⟩
  ·obtain⟨b,hk,hd⟩:=Bd hp
   exact⟨_,hk,fun K' fG hk'=>hd _ hk'⟩
 case toStr x=>
  simp only[bR,aM]at hp ⊢;split at hp
  ·exact hp.elim
  ·rename_i hne
   obtain⟨xs,h1,d1⟩:=Df hp;obtain⟨ns,rfl,h2⟩:=lG h1;exact⟨_,h2,fun K' fG hk=>d1 _ (td hk)⟩
 case len b x=>
  simp only[bR,aM]at hp ⊢;split at hp
  ·exact⟨_,hp,fun K' fG hk=>hk⟩
  ·exact⟨_,hp,fun K' fG hk=>hk⟩
  ·obtain⟨hp,dl⟩:=xW hp;exact⟨_,hp,fun K' fG hk=>dl _ hk⟩
  ·exact⟨_,hp,fun K' fG hk=>hk⟩
  ·exact hp.elim
end
end
end Ab
