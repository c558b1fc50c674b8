/- Parts of the proof of PCatalogBack, one behind the other, with short names. -/
import Derived.Test.YtegmnocpkgpgeaaGreatDoorZ12
set_option linter.unusedVariables false
set_option linter.unusedSimpArgs false
namespace Ab
open Go
section
def aY.use:aY->List Nat
 | .tmp t=>[t]
 | .const _=>[]
def wF:Option aY->List Nat
 |some x=>x.use
 |none=>[]
def qj.uses:qj->List Nat
 | .aK x| .box _ _ x| .rz _ _ x| .aP x| .cO _ x| .un _ x| .conv _ x| .rA x| .toStr x| .qk _ x| .eL _ x| .fieldAddr _ x| .om _ x| .rB _ _ x| .extract x _| .len _ x| .panic x| .aI x| .uy x| .mj _ _ x| .uz x| .iM x| .r8 x| .rC x| .vU x| .tD x| .yV x| .entry x| .Ef x| .BF _ _ _ x| .nA _ x| .Ts _ _ x=>x.use
 | .pick c a b=>c.use++(a.use++b.use)
 | .build _ parts=>parts.flatMap fun p=>p.2.2.use
 | .buildSlice _ _ _ _ parts=>parts.flatMap fun p=>p.2.use
 | .store _ x v=>x.use++v.use
 | .bin _ x y| .r7 _ _ x y| .F0 _ x y| .MO _ x y| .tC _ x y| .An _ x y| .yW x y| .index x y| .mm _ x y| .MP _ x y| .JL _ x y| .kM _ _ _ x y=>x.use++y.use
 | .dw _ m x v=>m.use++(x.use++v.use)
 | .slice3 _ x lo hi mx=>x.use++(wF lo++(wF hi++mx.use))
 | .mkMap| .O6=>[]
 | .JA f args=>f.use++args.flatMap aY.use
 | .indexAddr _ x y| .dZ _ _ x y| .makeSlice _ _ _ _ x y| .append _ _ _ x y=>x.use++y.use
 | .cX _ a b=>a.flatMap aY.use++b.flatMap aY.use
 | .slice _ x lo hi| .bN x lo hi| .lE _ x lo hi=>x.use++(wF lo++wF hi)
 | .call _ args=>args.flatMap aY.use
 | .iD f args=>f.use++args.flatMap aY.use
 | .bad=>[]
def qj.cls:qj->Nat
 | .aK _| .pick .. | .build .. | .bin .. | .r7 .. | .F0 .. | .un .. | .conv .. | .rA _| .cX .. | .eL .. | .bN .. | .om .. | .rB .. | .index .. | .extract .. | .mm .. | .uz _| .An .. | .BF .. | .MP .. | .bad=>0
 | .aP _| .cO .. | .slice .. | .fieldAddr .. | .indexAddr .. | .dZ .. | .len .. | .toStr .. | .aI .. | .uy .. | .mj .. | .MO .. | .iM .. | .r8 .. | .kM .. | .Ef .. | .slice3 .. | .JL .. =>1
 |_=>2
section
variable {P:Program} {Γ:bR} {e e':Env} {h:Heap} {k:SV->Heap->Prop} {kp:SV->Heap->Prop}
theorem dN{x:aY}(hE: ∀t∈x.use,Env.get e t=Env.get e' t):x.ev e=x.ev e':=by
 cases x with
 |tmp t=>exact hE t (by simp[aY.use])
 |const v=>rfl
theorem nL: ∀ {l:List aY},(∀ t∈l.flatMap aY.use,Env.get e t=Env.get e' t)->l.map (aY.ev e)=l.map (aY.ev e')
 | [],_=>rfl
 |x::r,hE=>by
  simp only[List.flatMap_cons,List.mem_append]at hE;rw[List.map_cons,List.map_cons,dN fun t ht=>hE t (.inl ht),nL fun t ht=>hE t (.inr ht)]
theorem nM{d:Int}{x:Option aY}{K:Int->Prop}(hE: ∀t∈wF x,Env.get e t=Env.get e' t):iw e d x K=iw e' d x K:=by
 cases x with
 |none=>rfl
 |some x=>simp only[iw,aE,dN (x:=x) hE]
theorem uK: ∀ {l:List (Nat×Nat×aY)} {cs:List SV} {K:List SV->Prop},(∀ t∈l.flatMap (fun p=>p.2.2.use),Env.get e t=Env.get e' t)->fY e l cs K=fY e' l cs K
 | [],_,_,_=>rfl
 |(off,sz,x)::r,cs,K,hE=>by
  simp only[List.flatMap_cons,List.mem_append]at hE;simp only[fY,aE,dN (x:=x) fun t ht=>hE t (.inl ht),uK (l:=r) fun t ht=>hE t (.inr ht)]
theorem mz{sz:Nat}: ∀ {l:List (Nat×aY)} {cs:List SV} {K:List SV->Prop},(∀ t∈l.flatMap (fun p=>p.2.use),Env.get e t=Env.get e' t)->fu sz e l cs K=fu sz e' l cs K
 | [],_,_,_=>rfl
 |(i,x)::r,cs,K,hE=>by
  simp only[List.flatMap_cons,List.mem_append]at hE;simp only[fu,aE,dN (x:=x) fun t ht=>hE t (.inl ht),mz (l:=r) fun t ht=>hE t (.inr ht)]
theorem zb{o:qj}(hE: ∀t∈o.uses,Env.get e t=Env.get e' t):bF P Γ o e h k kp=bF P Γ o e' h k kp:=by
 cases o with
 |rC x|vU x|tD x|yV x|entry x|Ef x|BF _ _ _ x|aK x|box _ _ x|rz _ _ x|aI x|uy x|mj _ _ x|uz x|iM x|r8 x|nA _ x|Ts _ _ x|aP x|cO _ x|un _ x|conv _ x|rA x|eL _ x|fieldAddr _ x|om _ x|rB _ _ x|extract x _|len _ x|panic x=>
  simp only[bF,aE,dN (x:=x) hE]
 |toStr x|qk _ x=>simp only[bF,aE,dN (x:=x) hE]
 |pick c a b=>
  simp only[qj.uses,List.mem_append]at hE;simp only[bF,aE,dN (x:=c) fun t ht=>hE t (.inl ht),dN (x:=a) fun t ht=>hE t (.inr (.inl ht)),dN (x:=b) fun t ht=>hE t (.inr (.inr ht))]
 |build z parts=>simp only[bF];exact uK hE
 |buildSlice ty sz z n parts=>simp only[bF,kn];exact mz hE
 |store n x y|bin _ x y|r7 _ _ x y|F0 _ x y|MO _ x y|tC _ x y|An _ x y|yW x y|MP _ x y|JL _ x y|kM _ _ _ x y|index x y|mm _ x y|indexAddr _ x y|dZ _ _ x y|makeSlice _ _ _ _ x y|append _ _ _ x y=>
  simp only[qj.uses,List.mem_append]at hE;simp only[bF,aE,dN (x:=x) fun t ht=>hE t (.inl ht),dN (x:=y) fun t ht=>hE t (.inr ht)]
 |dw _ m x v=>
  simp only[qj.uses,List.mem_append]at hE;simp only[bF,aE,dN (x:=m) fun t ht=>hE t (.inl ht),dN (x:=x) fun t ht=>hE t (.inr (.inl ht)),dN (x:=v) fun t ht=>hE t (.inr (.inr ht))]
 |slice3 sz x lo hi mx=>
  simp only[qj.uses,List.mem_append]at hE;simp only[bF,aE,dN (x:=x) fun t ht=>hE t (.inl ht),nM (x:=lo) fun t ht=>hE t (.inr (.inl ht)),nM (x:=hi) fun t ht=>hE t (.inr (.inr (.inl ht))),nM (x:=some mx) fun t ht=>hE t (.inr (.inr (.inr ht)))]
 |mkMap|O6|JA _ _=>rfl
 |cX fn a b=>
  simp only[qj.uses,List.mem_append]at hE;simp only[bF,kZ,nL (l:=a) fun t ht=>hE t (.inl ht),nL (l:=b) fun t ht=>hE t (.inr ht)]
 |slice sz x lo hi|bN x lo hi|lE n x lo hi=>
  simp only[qj.uses,List.mem_append]at hE;simp only[bF,aE,dN (x:=x) fun t ht=>hE t (.inl ht),nM (x:=lo) fun t ht=>hE t (.inr (.inl ht)),nM (x:=hi) fun t ht=>hE t (.inr (.inr ht))]
 |call f args=>simp only[bF,kZ,nL (l:=args) hE]
 |iD f args=>
  simp only[qj.uses,List.mem_append]at hE;simp only[bF,aE,kZ,dN (x:=f) fun t ht=>hE t (.inl ht),nL (l:=args) fun t ht=>hE t (.inr ht)]
 |bad=>rfl
theorem oC{v:SV}{p:List SV->Prop}(h:v.gE p):p v.cells/\ ∀q:List SV->Prop,q v.cells->v.gE q:=by
 obtain⟨hu,hp⟩:=dx.1 h;exact⟨hp,fun q hq=>dx.2 ⟨hu,hq⟩⟩
theorem zc{p:SV}{K:List SV->Nat->Prop}(hp:nB h p K): ∃cs sub,K cs sub/\ ∀K':List SV->Nat->Prop,K' cs sub->nB h p K':=by
 unfold nB at hp;split at hp
 ·obtain⟨h1,h2⟩:=oC hp
  exact⟨_,_,h1,fun K' hk=>by unfold nB;exact h2 _ hk⟩
 ·rename_i g
  split at hp
  ·rename_i v hv
   obtain⟨h1,h2⟩:=oC hp;exact⟨_,_,h1,fun K' hk=>by unfold nB;simp only[hv];exact h2 _ hk⟩
  ·exact hp.elim
 ·rename_i i g idx sub
  obtain⟨n,l⟩:=h;simp only[bg]at hp;split at hp
  ·rename_i o ho
   split at hp
   ·rename_i g' sz elems sk
    replace hp:=ah.1 hp
    obtain⟨hg,hp⟩:=hp;split at hp
    ·rename_i v hv
     obtain⟨h1,h2⟩:=oC hp;refine⟨_,_,h1,fun K' hk=> ?_⟩;unfold nB;simp only[bg,ho,hv];exact ah.2 ⟨hg,h2 _ hk⟩
    ·exact hp.elim
   ·exact hp.elim
  ·exact hp.elim
 ·exact hp.elim
theorem H8{op:BinOp}{a b:IntKind}{x y:Int}{K:SV->Prop}(hp:arith op a b x y K): ∃v,K v/\ ∀K':SV->Prop,K' v->arith op a b x y K':=by
 unfold arith at hp;split at hp
 ·replace hp:=ah.1 hp;exact⟨_,hp.2,fun K' hk=>ah.2 ⟨hp.1,hk⟩⟩
 ·replace hp:=ah.1 hp;exact⟨_,hp.2,fun K' hk=>ah.2 ⟨hp.1,hk⟩⟩
 ·rename_i hs1 hs2
  replace hp:=ah.1 hp
  obtain⟨h1,hp⟩:=hp
  have hrw: ∀K':SV->Prop,arith op a b x y K'=cY (O7 a b) (match op with
   | .add=>K' (.int a (a.wrap (x+y)))
   | .sub=>K' (.int a (a.wrap (x-y)))
   | .mul=>K' (.int a (a.wrap (x*y)))
   | .quo=>cY (!decide (y=0)) (K' (.int a (a.wrap (x.tdiv y))))
   | .rem=>cY (!decide (y=0)) (K' (.int a (x.tmod y)))
   | .eql=>K' (.bool (x==y))
   | .neq=>K' (.bool (x !=y))
   | .lss=>K' (.bool (decide (x<y)))
   | .leq=>K' (.bool (decide (x<=y)))
   | .gtr=>K' (.bool (decide (y<x)))
   | .geq=>K' (.bool (decide (y<=x)))
   | .and=>K' (.int a (kV .and a x y))
   | .or=>K' (.int a (kV .or a x y))
   | .xor=>K' (.int a (kV .xor a x y))
   | .andNot=>K' (.int a (kV .andNot a x y))
   |_=>False):=fun K'=>by cases op<;>first|rfl|exact absurd rfl hs1|exact absurd rfl hs2
  cases op<;>first
   |exact absurd rfl hs1
   |exact absurd rfl hs2
   |(exact⟨_,hp,fun K' hk=>by rw[hrw];exact ah.2 ⟨h1,hk⟩⟩)
   |(replace hp:=ah.1 hp;exact⟨_,hp.2,fun K' hk=>by rw[hrw];exact ah.2 ⟨h1,ah.2 ⟨hp.1,hk⟩⟩⟩)
theorem H9{op:BinOp}{x y:List UInt8}{K:SV->Prop}(hp:yX op x y K): ∃v,K v/\ ∀K':SV->Prop,K' v->yX op x y K':=by
 cases op<;>simp only[yX]at hp ⊢ <;>first
  |exact hp.elim
  |exact⟨_,hp,fun K' hk=>hk⟩
  |(replace hp:=ah.1 hp;exact⟨_,hp.2,fun K' hk=>ah.2 ⟨hp.1,hk⟩⟩)
theorem ze: ∀ {l:List (Nat×Nat×aY)} {cs:List SV} {K:List SV->Prop},fY e l cs K-> ∃cs',K cs'/\ ∀K':List SV->Prop,K' cs'->fY e l cs K'
 | [],cs,K,hp=>⟨cs,hp,fun K' hk=>hk⟩
 |(off,sz,x)::r,cs,K,hp=>by
  simp only[fY,aE]at hp ⊢;obtain⟨h1,h2⟩:=oC hp
  replace h1:=ah.1 h1
  obtain⟨h3,h1⟩:=h1;obtain⟨h4,h1⟩:=ff.1 h1;obtain⟨cs',hk,hd⟩:=ze h1;exact⟨cs',hk,fun K' hk'=>h2 _ (ah.2 ⟨h3,ff.2 ⟨h4,hd K' hk'⟩⟩)⟩
theorem eU{d:Int}{x:Option aY}{K:Int->Prop}(hp:iw e d x K): ∃n,K n/\ ∀K':Int->Prop,K' n->iw e d x K':=by
 cases x with
 |none=>exact⟨d,hp,fun K' hk=>hk⟩
 |some x=>
  simp only[iw,aE]at hp ⊢;split at hp
  ·exact⟨_,hp,fun K' hk=>hk⟩
  ·exact hp.elim
theorem J7{i g idx sub j sz:Nat}{K:SV->Prop}(hp:JM h i g idx sub j sz K): ∃v,K v/\ ∀K':SV->Prop,K' v->JM h i g idx sub j sz K':=by
 obtain⟨n,l⟩:=h;simp only[JM,bg]at hp ⊢;split at hp
 ·rename_i o ho
  split at hp
  ·rename_i g' sz' elems sk
   replace hp:=ah.1 hp
   obtain⟨hg,hp⟩:=hp;cases hs:Nat.beq sz' sz
   ·rw[hs]at hp
    exact⟨_,hp,fun K' hk=>by simp only[ho];exact ah.2 ⟨hg,hk⟩⟩
   ·rw[hs]at hp
    exact⟨_,hp,fun K' hk=>by simp only[ho];exact ah.2 ⟨hg,hk⟩⟩
  ·exact hp.elim
 ·exact hp.elim
theorem ga{i g:Nat}{p:Prop}(hp:gF h i g p):p/\ ∀q:Prop,q->gF h i g q:=by
 obtain⟨hp',sz,elems,sk,ho⟩:=eR hp;refine⟨hp',fun q hq=> ?_⟩;obtain⟨n,l⟩:=h;unfold gF;simp only[bg];have ho':ak l i=some (.vec g sz elems sk):=ho;rw[ho'];exact ah.2 ⟨by simp,hq⟩
theorem Cs{x y:SV}{K:Bool->Prop}(hp:JO h x y K): ∃b,K b/\ ∀K':Bool->Prop,K' b->JO h x y K':=by
 unfold JO at hp ⊢;split at hp
 ·exact⟨_,hp,fun K' hk=>hk⟩
 ·obtain⟨hp,dl⟩:=ga hp;exact⟨_,hp,fun K' hk=>dl _ hk⟩
 ·obtain⟨hp,dl⟩:=ga hp;exact⟨_,hp,fun K' hk=>dl _ hk⟩
 ·replace hp:=ah.1 hp
  obtain⟨h1,hp⟩:=hp;obtain⟨hp,dl⟩:=ga hp;exact⟨_,hp,fun K' hk=>ah.2 ⟨h1,dl _ hk⟩⟩
 ·exact hp.elim
theorem EJ{sz:Nat}{x:SV}{K:List SV->Prop}(hp:mN h sz x K): ∃xs,K xs/\ ∀K':List SV->Prop,K' xs->mN h sz x K':=by
 unfold mN at hp ⊢;split at hp
 ·exact⟨_,hp,fun K' hk=>hk⟩
 ·replace hp:=ah.1 hp
  obtain⟨h1,hp⟩:=hp;rw[qo]at hp;exact⟨_,hp,fun K' hk=>ah.2 ⟨h1,by rw[qo];exact hk⟩⟩
 ·replace hp:=ah.1 hp
  obtain⟨h1,hp⟩:=hp;rw[nG]at hp;exact⟨_,hp,fun K' hk=>ah.2 ⟨h1,by rw[nG];exact hk⟩⟩
 ·replace hp:=ah.1 hp
  obtain⟨h1,hp⟩:=hp;obtain⟨n,l⟩:=h;simp only[bg]at hp;split at hp
  ·rename_i ob bZ
   split at hp
   ·replace hp:=ah.1 hp
    obtain⟨h2,hp⟩:=hp;obtain⟨h3,hp⟩:=dQ.1 hp;obtain⟨h4,hp⟩:=cU.1 hp;refine⟨_,hp,fun K' hk=>ah.2 ⟨h1,?_⟩⟩;simp only[bg,bZ];exact ah.2 ⟨h2,dQ.2 ⟨h3,cU.2 ⟨h4,hk⟩⟩⟩
   ·exact hp.elim
  ·exact hp.elim
 ·exact hp.elim
theorem zf{kk:SV}: ∀ {es:List (SV×SV×Nat)} {i:Nat} {K:Option (Nat×SV)->Prop},nD kk es i K-> ∃r,K r/\ ∀K':Option (Nat×SV)->Prop,K' r->nD kk es i K'
 | [],i,K,hp=>⟨none,hp,fun K' hk=>hk⟩
 |(a,v,s)::r,i,K,hp=>by
  unfold nD at hp;split at hp
  ·rename_i b hb
   rcases Bw hp with⟨rfl,hp⟩|⟨rfl,hp⟩
   ·exact⟨_,hp,fun K' hk=>by unfold nD;rw[hb];exact hk⟩
   ·obtain⟨r',h1,h2⟩:=zf hp
    exact⟨r',h1,fun K' hk=>by unfold nD;rw[hb];exact h2 K' hk⟩
  ·exact hp.elim
theorem Ct{o:qj}(hc:o.cls=0)(hp:bF P Γ o e h k kp): ∃v,k v h/\ ∀(h':Heap) (K' fA:SV->Heap->Prop),K' v h'->bF P Γ o e h' K' fA:=by
 cases o<;>simp only[qj.cls,reduceCtorEq]at hc<;>try omega
 case aK x=>simp only[bF,aE]at hp ⊢;exact⟨_,hp,fun h' K' fA hk=>hk⟩
 case pick c a b=>
  simp only[bF,aE]at hp ⊢;split at hp
  ·rename_i x _
   cases x
   ·exact⟨_,hp,fun h' K' fA hk=>hk⟩
   ·exact⟨_,hp,fun h' K' fA hk=>hk⟩
  ·exact hp.elim
 case build z parts=>
  simp only[bF]at hp ⊢;obtain⟨cs,hk,hd⟩:=ze hp;exact⟨_,hk,fun h' K' fA hk'=>hd _ hk'⟩
 case bin op x y=>
  simp only[bF,aE]at hp ⊢;split at hp
  ·obtain⟨v,hk,hd⟩:=H8 hp;exact⟨v,hk,fun h' K' fA hk'=>hd _ hk'⟩
  ·obtain⟨v,hk,hd⟩:=H9 hp;exact⟨v,hk,fun h' K' fA hk'=>hd _ hk'⟩
  ·exact hp.elim
 case r7 neg ks x y=>
  simp only[bF,aE]at hp ⊢;split at hp
  ·split at hp
   ·rename_i p hq
    cases neg<;>exact⟨_,hp,fun h' K' fA hk=>by simpa only[hq]using hk⟩
   ·exact hp.elim
  ·exact hp.elim
 case F0 neg x y=>
  simp only[bF,aE]at hp ⊢;split at hp
  ·cases neg<;>exact⟨_,hp,fun h' K' fA hk=>hk⟩
  ·exact hp.elim
 case un op x=>
  simp only[bF,aE]at hp ⊢;split at hp<;>first|exact⟨_,hp,fun h' K' fA hk=>hk⟩|exact hp.elim
 case conv kk x=>
  simp only[bF,aE]at hp ⊢;split at hp<;>first|exact⟨_,hp,fun h' K' fA hk=>hk⟩|exact hp.elim
 case rA x=>
  simp only[bF,aE]at hp ⊢;split at hp<;>first|exact⟨_,hp,fun h' K' fA hk=>hk⟩|exact hp.elim
 case cX fn a b=>simp only[bF,kZ]at hp ⊢;exact⟨_,hp,fun h' K' fA hk=>hk⟩
 case eL t x=>simp only[bF,aE]at hp ⊢;exact⟨_,hp,fun h' K' fA hk=>hk⟩
 case bN x lo hi=>
  simp only[bF,aE]at hp ⊢;split at hp
  ·obtain⟨l,h1,d1⟩:=eU hp
   obtain⟨hh,h2,d2⟩:=eU h1
   replace h2:=ah.1 h2
   exact⟨_,h2.2,fun h' K' fA hk=>d1 _ (d2 _ (ah.2 ⟨h2.1,hk⟩))⟩
  ·exact hp.elim
 case om off x=>
  simp only[bF,aE]at hp ⊢;split at hp
  ·split at hp
   ·rename_i v hv;exact⟨_,hp,fun h' K' fA hk=>by simpa only[hv]using hk⟩
   ·exact hp.elim
  ·exact hp.elim
 case rB off n x=>
  simp only[bF,aE]at hp ⊢;split at hp
  ·obtain⟨h1,hp⟩:=dQ.1 hp
   obtain⟨h2,hp⟩:=cU.1 hp;exact⟨_,hp,fun h' K' fA hk=>dQ.2 ⟨h1,cU.2 ⟨h2,hk⟩⟩⟩
  ·exact hp.elim
 case index x i=>
  simp only[bF,aE]at hp ⊢;split at hp
  ·replace hp:=ah.1 hp;exact⟨_,hp.2,fun h' K' fA hk=>ah.2 ⟨hp.1,hk⟩⟩
  ·exact hp.elim
 case extract x i=>
  simp only[bF,aE]at hp ⊢;split at hp
  ·split at hp
   ·rename_i v hv;exact⟨_,hp,fun h' K' fA hk=>by simpa only[hv]using hk⟩
   ·exact hp.elim
  ·exact hp.elim
 case mm m x y=>
  simp only[bF,aE]at hp ⊢;split at hp
  ·cases m<;>exact⟨_,hp,fun h' K' fA hk=>hk⟩
  ·exact hp.elim
 case An id x y=>
  simp only[bF,aE]at hp ⊢;split at hp
  ·exact⟨_,hp,fun h' K' fA hk=>hk⟩
  ·exact hp.elim
 case BF t z ok x=>
  simp only[bF,aE]at hp ⊢;split at hp
  ·rename_i u v _
   rcases Bw hp with⟨hb,hp⟩|⟨hb,hp⟩<;>rw[hb]<;>cases ok<;>first|exact hp.elim|exact⟨_,hp,fun h' K' fA hk=>hk⟩
  ·cases ok<;>first|exact hp.elim|exact⟨_,hp,fun h' K' fA hk=>hk⟩
  ·exact hp.elim
 case MP neg x y=>
  simp only[bF,aE]at hp ⊢;split at hp<;>first|exact hp.elim|(cases neg<;>exact⟨_,hp,fun h' K' fA hk=>hk⟩)
 case uz x=>simp only[bF,aE]at hp ⊢;exact⟨_,hp,fun h' K' fA hk=>hk⟩
 case bad=>exact hp.elim
theorem wG{o:qj}(hc:o.cls<=1)(hp:bF P Γ o e h k kp): ∃v,k v h/\ ∀(K' fA:SV->Heap->Prop),K' v h->bF P Γ o e h K' fA:=by
 rcases Nat.lt_or_ge o.cls 1 with h0|h1
 ·obtain⟨v,hk,hd⟩:=Ct (by omega) hp
  exact⟨v,hk,fun K' fA hk'=>hd h K' fA hk'⟩
 have hc:o.cls=1:=by omega
 clear h1;cases o<;>simp only[qj.cls,reduceCtorEq]at hc<;>try omega
 case aP x=>
  simp only[bF,aE]at hp ⊢;obtain⟨cs,sub,hk,hd⟩:=zc hp;split at hk
  ·rename_i v hv;exact⟨_,hk,fun K' fA hk'=>hd _ (by simpa only[hv]using hk')⟩
  ·exact hk.elim
 case cO n x=>
  simp only[bF,aE]at hp ⊢;obtain⟨cs,sub,hk,hd⟩:=zc hp;obtain⟨h1,hk⟩:=dQ.1 hk;obtain⟨h2,hk⟩:=cU.1 hk;exact⟨_,hk,fun K' fA hk'=>hd _ (dQ.2 ⟨h1,cU.2 ⟨h2,hk'⟩⟩)⟩
 case slice sz x lo hi=>
  simp only[bF,aE]at hp ⊢;split at hp
  ·replace hp:=ah.1 hp
   obtain⟨ha,hp⟩:=hp;obtain⟨l,h1,d1⟩:=eU hp;obtain⟨hh,h2,d2⟩:=eU h1
   replace h2:=ah.1 h2
   exact⟨_,h2.2,fun K' fA hk=>ah.2 ⟨ha,d1 _ (d2 _ (ah.2 ⟨h2.1,hk⟩))⟩⟩
  ·rename_i cap _
   replace hp:=ah.1 hp
   obtain⟨ha,hp⟩:=hp;obtain⟨hp,dl⟩:=ga hp;obtain⟨l,h1,d1⟩:=eU hp;obtain⟨hh,h2,d2⟩:=eU h1
   replace h2:=ah.1 h2
   obtain⟨hb,h2⟩:=h2;cases cap with
   |none=>
    replace h2:=ah.1 h2
    exact⟨_,h2.2,fun K' fA hk=>ah.2 ⟨ha,dl _ (d1 _ (d2 _ (ah.2 ⟨hb,ah.2 ⟨h2.1,hk⟩⟩)))⟩⟩
   |some c=>
    replace h2:=ah.1 h2
    exact⟨_,h2.2,fun K' fA hk=>ah.2 ⟨ha,dl _ (d1 _ (d2 _ (ah.2 ⟨hb,ah.2 ⟨h2.1,hk⟩⟩)))⟩⟩
  ·obtain⟨l,h1,d1⟩:=eU hp
   obtain⟨hh,h2,d2⟩:=eU h1
   replace h2:=ah.1 h2
   exact⟨_,h2.2,fun K' fA hk=>d1 _ (d2 _ (ah.2 ⟨h2.1,hk⟩))⟩
  ·exact hp.elim
 case slice3 sz x lo hi mx=>
  simp only[bF,aE]at hp ⊢;split at hp
  ·replace hp:=ah.1 hp
   obtain⟨ha,hp⟩:=hp;obtain⟨l,h1,d1⟩:=eU hp;obtain⟨hh,h2,d2⟩:=eU h1;obtain⟨mm,h3,d3⟩:=eU h2
   replace h3:=ah.1 h3
   exact⟨_,h3.2,fun K' fA hk=>ah.2 ⟨ha,d1 _ (d2 _ (d3 _ (ah.2 ⟨h3.1,hk⟩)))⟩⟩
  ·replace hp:=ah.1 hp
   obtain⟨ha,hp⟩:=hp;obtain⟨hp,dl⟩:=ga hp;obtain⟨l,h1,d1⟩:=eU hp;obtain⟨hh,h2,d2⟩:=eU h1;obtain⟨mm,h3,d3⟩:=eU h2
   replace h3:=ah.1 h3
   exact⟨_,h3.2,fun K' fA hk=>ah.2 ⟨ha,dl _ (d1 _ (d2 _ (d3 _ (ah.2 ⟨h3.1,hk⟩))))⟩⟩
  ·obtain⟨l,h1,d1⟩:=eU hp
   obtain⟨hh,h2,d2⟩:=eU h1;obtain⟨mm,h3,d3⟩:=eU h2
   replace h3:=ah.1 h3
   exact⟨_,h3.2,fun K' fA hk=>d1 _ (d2 _ (d3 _ (ah.2 ⟨h3.1,hk⟩)))⟩
  ·exact hp.elim
 case kM z ok m x _=>
  simp only[bF,aE]at hp ⊢;obtain⟨n,l⟩:=h;split at hp
  ·rename_i hev
   replace hp:=ah.1 hp
   cases ok<;>exact⟨_,hp.2,fun K' fA hk=>ah.2 ⟨hp.1,hk⟩⟩
  ·rename_i i g n' l' hev hh
   cases hh
   simp only[bg]at hp ⊢;split at hp
   ·rename_i ob bZ
    split at hp
    ·rename_i es cl
     replace hp:=ah.1 hp
     obtain⟨r,hk,hd⟩:=zf hp.2;cases r with
     |none=>cases ok<;>exact⟨_,hk,fun K' fA hk'=>ah.2 ⟨hp.1,hd _ hk'⟩⟩
     |some p=>cases ok<;>exact⟨_,hk,fun K' fA hk'=>ah.2 ⟨hp.1,hd _ hk'⟩⟩
    ·exact hp.elim
   ·exact hp.elim
  ·exact hp.elim
 case Ef x=>
  simp only[bF,aE]at hp ⊢;obtain⟨n,l⟩:=h;split at hp
  ·rename_i hev
   exact⟨_,hp,fun K' fA hk=>hk⟩
  ·rename_i i g n' l' hev hh
   cases hh
   simp only[bg]at hp ⊢;split at hp
   ·rename_i ob bZ
    split at hp
    ·rename_i es cl
     replace hp:=ah.1 hp
     exact⟨_,hp.2,fun K' fA hk'=>ah.2 ⟨hp.1,hk'⟩⟩
    ·exact hp.elim
   ·exact hp.elim
  ·exact hp.elim
 case fieldAddr off x=>
  simp only[bF,aE]at hp ⊢;split at hp
  ·obtain⟨hp,dl⟩:=ga hp;exact⟨_,hp,fun K' fA hk=>dl _ hk⟩
  ·exact⟨_,hp,fun K' fA hk=>hk⟩
  ·exact hp.elim
 case indexAddr sz x i=>
  simp only[bF,aE]at hp ⊢;split at hp
  ·replace hp:=ah.1 hp
   obtain⟨ha,hp⟩:=hp
   replace hp:=ah.1 hp
   exact⟨_,hp.2,fun K' fA hk=>ah.2 ⟨ha,ah.2 ⟨hp.1,hk⟩⟩⟩
  ·replace hp:=ah.1 hp
   obtain⟨ha,hp⟩:=hp;obtain⟨hp,dl⟩:=ga hp
   replace hp:=ah.1 hp
   exact⟨_,hp.2,fun K' fA hk=>ah.2 ⟨ha,dl _ (ah.2 ⟨hp.1,hk⟩)⟩⟩
  ·exact hp.elim
 case dZ n sz x i=>
  simp only[bF,aE]at hp ⊢;split at hp
  ·replace hp:=ah.1 hp
   obtain⟨ha,hp⟩:=hp;obtain⟨v,hk,hd⟩:=J7 hp;exact⟨_,hk,fun K' fA hk'=>ah.2 ⟨ha,hd (fun v=>K' v h) hk'⟩⟩
  ·replace hp:=ah.1 hp
   obtain⟨ha,hp⟩:=hp;split at hp
   ·rename_i v hv
    exact⟨_,hp,fun K' fA hk=>ah.2 ⟨ha,hk⟩⟩
   ·exact hp.elim
  ·replace hp:=ah.1 hp
   exact⟨_,hp.2,fun K' fA hk=>ah.2 ⟨hp.1,hk⟩⟩
  ·exact hp.elim
 case JL neg x y _=>
  cases neg<;>simp only[bF,aE]at hp ⊢ <;>split at hp<;>first
   |exact hp.elim
   |exact⟨_,hp,fun K' fA hk=>hk⟩
   |(obtain⟨hp,dl⟩:=ga hp;exact⟨_,hp,fun K' fA hk=>dl _ hk⟩)
   |(replace hp:=ah.1 hp;exact⟨_,hp.2,fun K' fA hk=>ah.2 ⟨hp.1,hk⟩⟩)
 case aI x=>
  simp only[bF,aE]at hp ⊢;split at hp
  ·obtain⟨hp,dl⟩:=ga hp;exact⟨_,hp,fun K' fA hk=>dl _ hk⟩
  ·exact⟨_,hp,fun K' fA hk=>hk⟩
  ·exact⟨_,hp,fun K' fA hk=>hk⟩
  ·exact hp.elim
 case r8 x=>
  simp only[bF,aE]at hp ⊢;split at hp
  ·exact⟨_,hp,fun K' fA hk=>hk⟩
  ·obtain⟨hp,dl⟩:=ga hp;exact⟨_,hp,fun K' fA hk=>dl _ hk⟩
  ·exact hp.elim
 case iM x=>
  simp only[bF,aE]at hp ⊢;split at hp
  ·exact⟨_,hp,fun K' fA hk=>hk⟩
  ·replace hp:=ah.1 hp
   obtain⟨h1,hp⟩:=hp;obtain⟨hp,dl⟩:=y5 hp;exact⟨_,hp,fun K' fA hk=>ah.2 ⟨h1,dl _ hk⟩⟩
  ·exact hp.elim
 case uy x=>
  obtain⟨n,l⟩:=h;simp only[bF,aE]at hp ⊢;split at hp
  ·exact⟨_,hp,fun K' fA hk=>hk⟩
  ·rename_i hh
   cases hh
   simp only[bg]at hp;split at hp
   ·rename_i ob bZ
    split at hp
    ·replace hp:=ah.1 hp
     exact⟨_,hp.2,fun K' fA hk=>by simp only[bg,bZ];exact ah.2 ⟨hp.1,hk⟩⟩
    ·exact hp.elim
   ·exact hp.elim
  ·exact hp.elim
 case mj u sz x=>
  obtain⟨n,l⟩:=h;simp only[bF,aE]at hp ⊢;split at hp
  ·exact⟨_,hp,fun K' fA hk=>hk⟩
  ·rename_i hh
   cases hh
   simp only[bg]at hp;split at hp
   ·rename_i ob bZ
    split at hp
    ·replace hp:=ah.1 hp
     exact⟨_,hp.2,fun K' fA hk=>by simp only[bg,bZ];exact ah.2 ⟨hp.1,hk⟩⟩
    ·exact hp.elim
   ·exact hp.elim
  ·exact hp.elim
 case MO neg x y _=>
  simp only[bF,aE]at hp ⊢;cases neg
  ·obtain⟨b,hk,hd⟩:=Cs hp
   exact⟨_,hk,fun K' fA hk'=>hd _ hk'⟩
  ·obtain⟨b,hk,hd⟩:=Cs hp
   exact⟨_,hk,fun K' fA hk'=>hd _ hk'⟩
 case toStr x=>
  simp only[bF,aE]at hp ⊢;split at hp
  ·exact hp.elim
  ·rename_i hne
   obtain⟨xs,h1,d1⟩:=EJ hp;obtain⟨ns,rfl,h2⟩:=lI h1;exact⟨_,h2,fun K' fA hk=>d1 _ (tG hk)⟩
 case len b x=>
  simp only[bF,aE]at hp ⊢;split at hp
  ·exact⟨_,hp,fun K' fA hk=>hk⟩
  ·exact⟨_,hp,fun K' fA hk=>hk⟩
  ·obtain⟨hp,dl⟩:=y5 hp;exact⟨_,hp,fun K' fA hk=>dl _ hk⟩
  ·exact⟨_,hp,fun K' fA hk=>hk⟩
  ·exact hp.elim
end
end
end Ab
