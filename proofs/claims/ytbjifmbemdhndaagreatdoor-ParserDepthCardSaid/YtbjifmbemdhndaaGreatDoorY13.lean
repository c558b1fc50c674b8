/- Parts of the proof of PParserDepth, one behind the other, with short names. -/
import Derived.Test.YtbjifmbemdhndaaGreatDoorY12
set_option linter.unusedVariables false
set_option linter.unusedSimpArgs false
namespace Ab
open Go
section
def aR.use:aR->List Nat
 | .tmp t=>[t]
 | .const _=>[]
def tW:Option aR->List Nat
 |some x=>x.use
 |none=>[]
def n6.uses:n6->List Nat
 | .aS x| .box _ _ x| .tE _ _ x| .aU x| .bJ _ x| .un _ x| .conv _ x| .o4 x| .toStr x| .n7 _ x| .dJ _ x| .fieldAddr _ x| .o5 _ x| .o6 _ _ x| .extract x _| .len _ x| .panic x| .aI x| .rZ x| .kC _ _ x| .sg x| .gx x| .qi x| .rj x| .vK x| .o7 x| .tF x| .entry x| .Bj x| .yN _ _ _ x| .lG _ x| .OV _ _ x=>x.use
 | .pick c a b=>c.use++(a.use++b.use)
 | .build _ parts=>parts.flatMap fun p=>p.2.2.use
 | .buildSlice _ _ _ _ parts=>parts.flatMap fun p=>p.2.use
 | .store _ x v=>x.use++v.use
 | .bin _ x y| .s8 _ _ x y| .Ez _ x y| .Ie _ x y| .ri _ x y| .xq _ x y| .vL x y| .index x y| .mm _ x y| .FX _ x y| .J0 _ x y| .gW _ _ _ x y=>x.use++y.use
 | .bM _ m x v=>m.use++(x.use++v.use)
 | .slice3 _ x lo hi mx=>x.use++(tW lo++(tW hi++mx.use))
 | .mkMap| .J1=>[]
 | .EA f args=>f.use++args.flatMap aR.use
 | .indexAddr _ x y| .dD _ _ x y| .makeSlice _ _ _ _ x y| .append _ _ _ x y=>x.use++y.use
 | .dB _ a b=>a.flatMap aR.use++b.flatMap aR.use
 | .slice _ x lo hi| .bn x lo hi| .gH _ x lo hi=>x.use++(tW lo++tW hi)
 | .call _ args=>args.flatMap aR.use
 | .jt f args=>f.use++args.flatMap aR.use
 | .bad=>[]
def n6.cls:n6->Nat
 | .aS _| .pick .. | .build .. | .bin .. | .s8 .. | .Ez .. | .un .. | .conv .. | .o4 _| .dB .. | .dJ .. | .bn .. | .o5 .. | .o6 .. | .index .. | .extract .. | .mm .. | .sg _| .xq .. | .yN .. | .FX .. | .bad=>0
 | .aU _| .bJ .. | .slice .. | .fieldAddr .. | .indexAddr .. | .dD .. | .len .. | .toStr .. | .aI .. | .rZ .. | .kC .. | .Ie .. | .gx .. | .qi .. | .gW .. | .Bj .. | .slice3 .. | .J0 .. =>1
 |_=>2
section
variable {P:Program} {Γ:bH} {e e':Env} {h:Heap} {k:SV->Heap->Prop} {kp:SV->Heap->Prop}
theorem dG{x:aR}(hE: ∀t∈x.use,Env.get e t=Env.get e' t):x.ev e=x.ev e':=by
 cases x with
 |tmp t=>exact hE t (by simp[aR.use])
 |const v=>rfl
theorem lN: ∀ {l:List aR},(∀ t∈l.flatMap aR.use,Env.get e t=Env.get e' t)->l.map (aR.ev e)=l.map (aR.ev e')
 | [],_=>rfl
 |x::r,hE=>by
  simp only[List.flatMap_cons,List.mem_append]at hE;rw[List.map_cons,List.map_cons,dG fun t ht=>hE t (.inl ht),lN fun t ht=>hE t (.inr ht)]
theorem lO{d:Int}{x:Option aR}{K:Int->Prop}(hE: ∀t∈tW x,Env.get e t=Env.get e' t):gb e d x K=gb e' d x K:=by
 cases x with
 |none=>rfl
 |some x=>simp only[gb,aE,dG (x:=x) hE]
theorem sy: ∀ {l:List (Nat×Nat×aR)} {cs:List SV} {K:List SV->Prop},(∀ t∈l.flatMap (fun p=>p.2.2.use),Env.get e t=Env.get e' t)->fA e l cs K=fA e' l cs K
 | [],_,_,_=>rfl
 |(off,sz,x)::r,cs,K,hE=>by
  simp only[List.flatMap_cons,List.mem_append]at hE;simp only[fA,aE,dG (x:=x) fun t ht=>hE t (.inl ht),sy (l:=r) fun t ht=>hE t (.inr ht)]
theorem kG{sz:Nat}: ∀ {l:List (Nat×aR)} {cs:List SV} {K:List SV->Prop},(∀ t∈l.flatMap (fun p=>p.2.use),Env.get e t=Env.get e' t)->eT sz e l cs K=eT sz e' l cs K
 | [],_,_,_=>rfl
 |(i,x)::r,cs,K,hE=>by
  simp only[List.flatMap_cons,List.mem_append]at hE;simp only[eT,aE,dG (x:=x) fun t ht=>hE t (.inl ht),kG (l:=r) fun t ht=>hE t (.inr ht)]
theorem vZ{o:n6}(hE: ∀t∈o.uses,Env.get e t=Env.get e' t):bw P Γ o e h k kp=bw P Γ o e' h k kp:=by
 cases o with
 |rj x|vK x|o7 x|tF x|entry x|Bj x|yN _ _ _ x|aS x|box _ _ x|tE _ _ x|aI x|rZ x|kC _ _ x|sg x|gx x|qi x|lG _ x|OV _ _ x|aU x|bJ _ x|un _ x|conv _ x|o4 x|dJ _ x|fieldAddr _ x|o5 _ x|o6 _ _ x|extract x _|len _ x|panic x=>
  simp only[bw,aE,dG (x:=x) hE]
 |toStr x|n7 _ x=>simp only[bw,aE,dG (x:=x) hE]
 |pick c a b=>
  simp only[n6.uses,List.mem_append]at hE;simp only[bw,aE,dG (x:=c) fun t ht=>hE t (.inl ht),dG (x:=a) fun t ht=>hE t (.inr (.inl ht)),dG (x:=b) fun t ht=>hE t (.inr (.inr ht))]
 |build z parts=>simp only[bw];exact sy hE
 |buildSlice ty sz z n parts=>simp only[bw,iI];exact kG hE
 |store n x y|bin _ x y|s8 _ _ x y|Ez _ x y|Ie _ x y|ri _ x y|xq _ x y|vL x y|FX _ x y|J0 _ x y|gW _ _ _ x y|index x y|mm _ x y|indexAddr _ x y|dD _ _ x y|makeSlice _ _ _ _ x y|append _ _ _ x y=>
  simp only[n6.uses,List.mem_append]at hE;simp only[bw,aE,dG (x:=x) fun t ht=>hE t (.inl ht),dG (x:=y) fun t ht=>hE t (.inr ht)]
 |bM _ m x v=>
  simp only[n6.uses,List.mem_append]at hE;simp only[bw,aE,dG (x:=m) fun t ht=>hE t (.inl ht),dG (x:=x) fun t ht=>hE t (.inr (.inl ht)),dG (x:=v) fun t ht=>hE t (.inr (.inr ht))]
 |slice3 sz x lo hi mx=>
  simp only[n6.uses,List.mem_append]at hE;simp only[bw,aE,dG (x:=x) fun t ht=>hE t (.inl ht),lO (x:=lo) fun t ht=>hE t (.inr (.inl ht)),lO (x:=hi) fun t ht=>hE t (.inr (.inr (.inl ht))),lO (x:=some mx) fun t ht=>hE t (.inr (.inr (.inr ht)))]
 |mkMap|J1|EA _ _=>rfl
 |dB fn a b=>
  simp only[n6.uses,List.mem_append]at hE;simp only[bw,jh,lN (l:=a) fun t ht=>hE t (.inl ht),lN (l:=b) fun t ht=>hE t (.inr ht)]
 |slice sz x lo hi|bn x lo hi|gH n x lo hi=>
  simp only[n6.uses,List.mem_append]at hE;simp only[bw,aE,dG (x:=x) fun t ht=>hE t (.inl ht),lO (x:=lo) fun t ht=>hE t (.inr (.inl ht)),lO (x:=hi) fun t ht=>hE t (.inr (.inr ht))]
 |call f args=>simp only[bw,jh,lN (l:=args) hE]
 |jt f args=>
  simp only[n6.uses,List.mem_append]at hE;simp only[bw,aE,jh,dG (x:=f) fun t ht=>hE t (.inl ht),lN (l:=args) fun t ht=>hE t (.inr ht)]
 |bad=>rfl
theorem mC{v:SV}{p:List SV->Prop}(h:v.fE p):p v.cells/\ ∀q:List SV->Prop,q v.cells->v.fE q:=by
 obtain⟨hu,hp⟩:=cR.1 h;exact⟨hp,fun q hq=>cR.2 ⟨hu,hq⟩⟩
theorem v7{p:SV}{K:List SV->Nat->Prop}(hp:lH h p K): ∃cs sub,K cs sub/\ ∀K':List SV->Nat->Prop,K' cs sub->lH h p K':=by
 unfold lH at hp;split at hp
 ·obtain⟨h1,h2⟩:=mC hp
  exact⟨_,_,h1,fun K' hk=>by unfold lH;exact h2 _ hk⟩
 ·rename_i g
  split at hp
  ·rename_i v hv
   obtain⟨h1,h2⟩:=mC hp;exact⟨_,_,h1,fun K' hk=>by unfold lH;simp only[hv];exact h2 _ hk⟩
  ·exact hp.elim
 ·rename_i i g idx sub
  obtain⟨n,l⟩:=h;simp only[aW]at hp;split at hp
  ·rename_i o ho
   split at hp
   ·rename_i g' sz elems sk
    replace hp:=ah.1 hp
    obtain⟨hg,hp⟩:=hp;split at hp
    ·rename_i v hv
     obtain⟨h1,h2⟩:=mC hp;refine⟨_,_,h1,fun K' hk=> ?_⟩;unfold lH;simp only[aW,ho,hv];exact ah.2 ⟨hg,h2 _ hk⟩
    ·exact hp.elim
   ·exact hp.elim
  ·exact hp.elim
 ·exact hp.elim
theorem E3{op:BinOp}{a b:IntKind}{x y:Int}{K:SV->Prop}(hp:arith op a b x y K): ∃v,K v/\ ∀K':SV->Prop,K' v->arith op a b x y K':=by
 unfold arith at hp;split at hp
 ·replace hp:=ah.1 hp;exact⟨_,hp.2,fun K' hk=>ah.2 ⟨hp.1,hk⟩⟩
 ·replace hp:=ah.1 hp;exact⟨_,hp.2,fun K' hk=>ah.2 ⟨hp.1,hk⟩⟩
 ·rename_i hs1 hs2
  replace hp:=ah.1 hp
  obtain⟨h1,hp⟩:=hp
  have hrw: ∀K':SV->Prop,arith op a b x y K'=cQ (J2 a b) (match op with
   | .add=>K' (.int a (a.wrap (x+y)))
   | .sub=>K' (.int a (a.wrap (x-y)))
   | .mul=>K' (.int a (a.wrap (x*y)))
   | .quo=>cQ (!decide (y=0)) (K' (.int a (a.wrap (x.tdiv y))))
   | .rem=>cQ (!decide (y=0)) (K' (.int a (x.tmod y)))
   | .eql=>K' (.bool (x==y))
   | .neq=>K' (.bool (x !=y))
   | .lss=>K' (.bool (decide (x<y)))
   | .leq=>K' (.bool (decide (x<=y)))
   | .gtr=>K' (.bool (decide (y<x)))
   | .geq=>K' (.bool (decide (y<=x)))
   | .and=>K' (.int a (jc .and a x y))
   | .or=>K' (.int a (jc .or a x y))
   | .xor=>K' (.int a (jc .xor a x y))
   | .andNot=>K' (.int a (jc .andNot a x y))
   |_=>False):=fun K'=>by cases op<;>first|rfl|exact absurd rfl hs1|exact absurd rfl hs2
  cases op<;>first
   |exact absurd rfl hs1
   |exact absurd rfl hs2
   |(exact⟨_,hp,fun K' hk=>by rw[hrw];exact ah.2 ⟨h1,hk⟩⟩)
   |(replace hp:=ah.1 hp;exact⟨_,hp.2,fun K' hk=>by rw[hrw];exact ah.2 ⟨h1,ah.2 ⟨hp.1,hk⟩⟩⟩)
theorem E4{op:BinOp}{x y:List UInt8}{K:SV->Prop}(hp:vM op x y K): ∃v,K v/\ ∀K':SV->Prop,K' v->vM op x y K':=by
 cases op<;>simp only[vM]at hp ⊢ <;>first
  |exact hp.elim
  |exact⟨_,hp,fun K' hk=>hk⟩
  |(replace hp:=ah.1 hp;exact⟨_,hp.2,fun K' hk=>ah.2 ⟨hp.1,hk⟩⟩)
theorem v8: ∀ {l:List (Nat×Nat×aR)} {cs:List SV} {K:List SV->Prop},fA e l cs K-> ∃cs',K cs'/\ ∀K':List SV->Prop,K' cs'->fA e l cs K'
 | [],cs,K,hp=>⟨cs,hp,fun K' hk=>hk⟩
 |(off,sz,x)::r,cs,K,hp=>by
  simp only[fA,aE]at hp ⊢;obtain⟨h1,h2⟩:=mC hp
  replace h1:=ah.1 h1
  obtain⟨h3,h1⟩:=h1;obtain⟨h4,h1⟩:=fL.1 h1;obtain⟨cs',hk,hd⟩:=v8 h1;exact⟨cs',hk,fun K' hk'=>h2 _ (ah.2 ⟨h3,fL.2 ⟨h4,hd K' hk'⟩⟩)⟩
theorem eF{d:Int}{x:Option aR}{K:Int->Prop}(hp:gb e d x K): ∃n,K n/\ ∀K':Int->Prop,K' n->gb e d x K':=by
 cases x with
 |none=>exact⟨d,hp,fun K' hk=>hk⟩
 |some x=>
  simp only[gb,aE]at hp ⊢;split at hp
  ·exact⟨_,hp,fun K' hk=>hk⟩
  ·exact hp.elim
theorem Gi{i g idx sub j sz:Nat}{K:SV->Prop}(hp:FY h i g idx sub j sz K): ∃v,K v/\ ∀K':SV->Prop,K' v->FY h i g idx sub j sz K':=by
 obtain⟨n,l⟩:=h;simp only[FY,aW]at hp ⊢;split at hp
 ·rename_i o ho
  split at hp
  ·rename_i g' sz' elems sk
   replace hp:=ah.1 hp
   obtain⟨hg,hp⟩:=hp;cases hs:Nat.beq sz' sz
   ·rw[hs]at hp
    exact⟨_,hp,fun K' hk=>by simp only[ho];exact ah.2 ⟨hg,hk⟩⟩
   ·rw[hs]at hp
    exact⟨_,hp,fun K' hk=>by simp only[ho];exact ah.2 ⟨hg,hk⟩⟩
  ·exact hp.elim
 ·exact hp.elim
theorem fC{i g:Nat}{p:Prop}(hp:fJ h i g p):p/\ ∀q:Prop,q->fJ h i g q:=by
 obtain⟨hp',sz,elems,sk,ho⟩:=eC hp;refine⟨hp',fun q hq=> ?_⟩;obtain⟨n,l⟩:=h;unfold fJ;simp only[aW];have ho':aG l i=some (.vec g sz elems sk):=ho;rw[ho'];exact ah.2 ⟨by simp,hq⟩
theorem zB{x y:SV}{K:Bool->Prop}(hp:F0 h x y K): ∃b,K b/\ ∀K':Bool->Prop,K' b->F0 h x y K':=by
 unfold F0 at hp ⊢;split at hp
 ·exact⟨_,hp,fun K' hk=>hk⟩
 ·obtain⟨hp,dl⟩:=fC hp;exact⟨_,hp,fun K' hk=>dl _ hk⟩
 ·obtain⟨hp,dl⟩:=fC hp;exact⟨_,hp,fun K' hk=>dl _ hk⟩
 ·replace hp:=ah.1 hp
  obtain⟨h1,hp⟩:=hp;obtain⟨hp,dl⟩:=fC hp;exact⟨_,hp,fun K' hk=>ah.2 ⟨h1,dl _ hk⟩⟩
 ·exact hp.elim
theorem BM{sz:Nat}{x:SV}{K:List SV->Prop}(hp:kT h sz x K): ∃xs,K xs/\ ∀K':List SV->Prop,K' xs->kT h sz x K':=by
 unfold kT at hp ⊢;split at hp
 ·exact⟨_,hp,fun K' hk=>hk⟩
 ·replace hp:=ah.1 hp
  obtain⟨h1,hp⟩:=hp;rw[og]at hp;exact⟨_,hp,fun K' hk=>ah.2 ⟨h1,by rw[og];exact hk⟩⟩
 ·replace hp:=ah.1 hp
  obtain⟨h1,hp⟩:=hp;rw[oe]at hp;exact⟨_,hp,fun K' hk=>ah.2 ⟨h1,by rw[oe];exact hk⟩⟩
 ·replace hp:=ah.1 hp
  obtain⟨h1,hp⟩:=hp;obtain⟨n,l⟩:=h;simp only[aW]at hp;split at hp
  ·rename_i ob bS
   split at hp
   ·replace hp:=ah.1 hp
    obtain⟨h2,hp⟩:=hp;obtain⟨h3,hp⟩:=dY.1 hp;obtain⟨h4,hp⟩:=cT.1 hp;refine⟨_,hp,fun K' hk=>ah.2 ⟨h1,?_⟩⟩;simp only[aW,bS];exact ah.2 ⟨h2,dY.2 ⟨h3,cT.2 ⟨h4,hk⟩⟩⟩
   ·exact hp.elim
  ·exact hp.elim
 ·exact hp.elim
theorem we{kk:SV}: ∀ {es:List (SV×SV×Nat)} {i:Nat} {K:Option (Nat×SV)->Prop},oK kk es i K-> ∃r,K r/\ ∀K':Option (Nat×SV)->Prop,K' r->oK kk es i K'
 | [],i,K,hp=>⟨none,hp,fun K' hk=>hk⟩
 |(a,v,s)::r,i,K,hp=>by
  unfold oK at hp;split at hp
  ·rename_i b hb
   rcases xB hp with⟨rfl,hp⟩|⟨rfl,hp⟩
   ·exact⟨_,hp,fun K' hk=>by unfold oK;rw[hb];exact hk⟩
   ·obtain⟨r',h1,h2⟩:=we hp
    exact⟨r',h1,fun K' hk=>by unfold oK;rw[hb];exact h2 K' hk⟩
  ·exact hp.elim
theorem zC{o:n6}(hc:o.cls=0)(hp:bw P Γ o e h k kp): ∃v,k v h/\ ∀(h':Heap) (K' eU:SV->Heap->Prop),K' v h'->bw P Γ o e h' K' eU:=by
 cases o<;>simp only[n6.cls,reduceCtorEq]at hc<;>try omega
 case aS x=>simp only[bw,aE]at hp ⊢;exact⟨_,hp,fun h' K' eU hk=>hk⟩
 case pick c a b=>
  simp only[bw,aE]at hp ⊢;split at hp
  ·rename_i x _
   cases x
   ·exact⟨_,hp,fun h' K' eU hk=>hk⟩
   ·exact⟨_,hp,fun h' K' eU hk=>hk⟩
  ·exact hp.elim
 case build z parts=>
  simp only[bw]at hp ⊢;obtain⟨cs,hk,hd⟩:=v8 hp;exact⟨_,hk,fun h' K' eU hk'=>hd _ hk'⟩
 case bin op x y=>
  simp only[bw,aE]at hp ⊢;split at hp
  ·obtain⟨v,hk,hd⟩:=E3 hp;exact⟨v,hk,fun h' K' eU hk'=>hd _ hk'⟩
  ·obtain⟨v,hk,hd⟩:=E4 hp;exact⟨v,hk,fun h' K' eU hk'=>hd _ hk'⟩
  ·exact hp.elim
 case s8 neg ks x y=>
  simp only[bw,aE]at hp ⊢;split at hp
  ·split at hp
   ·rename_i p hq
    cases neg<;>exact⟨_,hp,fun h' K' eU hk=>by simpa only[hq]using hk⟩
   ·exact hp.elim
  ·exact hp.elim
 case Ez neg x y=>
  simp only[bw,aE]at hp ⊢;split at hp
  ·cases neg<;>exact⟨_,hp,fun h' K' eU hk=>hk⟩
  ·exact hp.elim
 case un op x=>
  simp only[bw,aE]at hp ⊢;split at hp<;>first|exact⟨_,hp,fun h' K' eU hk=>hk⟩|exact hp.elim
 case conv kk x=>
  simp only[bw,aE]at hp ⊢;split at hp<;>first|exact⟨_,hp,fun h' K' eU hk=>hk⟩|exact hp.elim
 case o4 x=>
  simp only[bw,aE]at hp ⊢;split at hp<;>first|exact⟨_,hp,fun h' K' eU hk=>hk⟩|exact hp.elim
 case dB fn a b=>simp only[bw,jh]at hp ⊢;exact⟨_,hp,fun h' K' eU hk=>hk⟩
 case dJ t x=>simp only[bw,aE]at hp ⊢;exact⟨_,hp,fun h' K' eU hk=>hk⟩
 case bn x lo hi=>
  simp only[bw,aE]at hp ⊢;split at hp
  ·obtain⟨l,h1,d1⟩:=eF hp
   obtain⟨hh,h2,d2⟩:=eF h1
   replace h2:=ah.1 h2
   exact⟨_,h2.2,fun h' K' eU hk=>d1 _ (d2 _ (ah.2 ⟨h2.1,hk⟩))⟩
  ·exact hp.elim
 case o5 off x=>
  simp only[bw,aE]at hp ⊢;split at hp
  ·split at hp
   ·rename_i v hv;exact⟨_,hp,fun h' K' eU hk=>by simpa only[hv]using hk⟩
   ·exact hp.elim
  ·exact hp.elim
 case o6 off n x=>
  simp only[bw,aE]at hp ⊢;split at hp
  ·obtain⟨h1,hp⟩:=dY.1 hp
   obtain⟨h2,hp⟩:=cT.1 hp;exact⟨_,hp,fun h' K' eU hk=>dY.2 ⟨h1,cT.2 ⟨h2,hk⟩⟩⟩
  ·exact hp.elim
 case index x i=>
  simp only[bw,aE]at hp ⊢;split at hp
  ·replace hp:=ah.1 hp;exact⟨_,hp.2,fun h' K' eU hk=>ah.2 ⟨hp.1,hk⟩⟩
  ·exact hp.elim
 case extract x i=>
  simp only[bw,aE]at hp ⊢;split at hp
  ·split at hp
   ·rename_i v hv;exact⟨_,hp,fun h' K' eU hk=>by simpa only[hv]using hk⟩
   ·exact hp.elim
  ·exact hp.elim
 case mm m x y=>
  simp only[bw,aE]at hp ⊢;split at hp
  ·cases m<;>exact⟨_,hp,fun h' K' eU hk=>hk⟩
  ·exact hp.elim
 case xq id x y=>
  simp only[bw,aE]at hp ⊢;split at hp
  ·exact⟨_,hp,fun h' K' eU hk=>hk⟩
  ·exact hp.elim
 case yN t z ok x=>
  simp only[bw,aE]at hp ⊢;split at hp
  ·rename_i u v _
   rcases xB hp with⟨hb,hp⟩|⟨hb,hp⟩<;>rw[hb]<;>cases ok<;>first|exact hp.elim|exact⟨_,hp,fun h' K' eU hk=>hk⟩
  ·cases ok<;>first|exact hp.elim|exact⟨_,hp,fun h' K' eU hk=>hk⟩
  ·exact hp.elim
 case FX neg x y=>
  simp only[bw,aE]at hp ⊢;split at hp<;>first|exact hp.elim|(cases neg<;>exact⟨_,hp,fun h' K' eU hk=>hk⟩)
 case sg x=>simp only[bw,aE]at hp ⊢;exact⟨_,hp,fun h' K' eU hk=>hk⟩
 case bad=>exact hp.elim
theorem tX{o:n6}(hc:o.cls<=1)(hp:bw P Γ o e h k kp): ∃v,k v h/\ ∀(K' eU:SV->Heap->Prop),K' v h->bw P Γ o e h K' eU:=by
 rcases Nat.lt_or_ge o.cls 1 with h0|h1
 ·obtain⟨v,hk,hd⟩:=zC (by omega) hp
  exact⟨v,hk,fun K' eU hk'=>hd h K' eU hk'⟩
 have hc:o.cls=1:=by omega
 clear h1;cases o<;>simp only[n6.cls,reduceCtorEq]at hc<;>try omega
 case aU x=>
  simp only[bw,aE]at hp ⊢;obtain⟨cs,sub,hk,hd⟩:=v7 hp;split at hk
  ·rename_i v hv;exact⟨_,hk,fun K' eU hk'=>hd _ (by simpa only[hv]using hk')⟩
  ·exact hk.elim
 case bJ n x=>
  simp only[bw,aE]at hp ⊢;obtain⟨cs,sub,hk,hd⟩:=v7 hp;obtain⟨h1,hk⟩:=dY.1 hk;obtain⟨h2,hk⟩:=cT.1 hk;exact⟨_,hk,fun K' eU hk'=>hd _ (dY.2 ⟨h1,cT.2 ⟨h2,hk'⟩⟩)⟩
 case slice sz x lo hi=>
  simp only[bw,aE]at hp ⊢;split at hp
  ·replace hp:=ah.1 hp
   obtain⟨ha,hp⟩:=hp;obtain⟨l,h1,d1⟩:=eF hp;obtain⟨hh,h2,d2⟩:=eF h1
   replace h2:=ah.1 h2
   exact⟨_,h2.2,fun K' eU hk=>ah.2 ⟨ha,d1 _ (d2 _ (ah.2 ⟨h2.1,hk⟩))⟩⟩
  ·rename_i cap _
   replace hp:=ah.1 hp
   obtain⟨ha,hp⟩:=hp;obtain⟨hp,dl⟩:=fC hp;obtain⟨l,h1,d1⟩:=eF hp;obtain⟨hh,h2,d2⟩:=eF h1
   replace h2:=ah.1 h2
   obtain⟨hb,h2⟩:=h2;cases cap with
   |none=>
    replace h2:=ah.1 h2
    exact⟨_,h2.2,fun K' eU hk=>ah.2 ⟨ha,dl _ (d1 _ (d2 _ (ah.2 ⟨hb,ah.2 ⟨h2.1,hk⟩⟩)))⟩⟩
   |some c=>
    replace h2:=ah.1 h2
    exact⟨_,h2.2,fun K' eU hk=>ah.2 ⟨ha,dl _ (d1 _ (d2 _ (ah.2 ⟨hb,ah.2 ⟨h2.1,hk⟩⟩)))⟩⟩
  ·obtain⟨l,h1,d1⟩:=eF hp
   obtain⟨hh,h2,d2⟩:=eF h1
   replace h2:=ah.1 h2
   exact⟨_,h2.2,fun K' eU hk=>d1 _ (d2 _ (ah.2 ⟨h2.1,hk⟩))⟩
  ·exact hp.elim
 case slice3 sz x lo hi mx=>
  simp only[bw,aE]at hp ⊢;split at hp
  ·replace hp:=ah.1 hp
   obtain⟨ha,hp⟩:=hp;obtain⟨l,h1,d1⟩:=eF hp;obtain⟨hh,h2,d2⟩:=eF h1;obtain⟨mm,h3,d3⟩:=eF h2
   replace h3:=ah.1 h3
   exact⟨_,h3.2,fun K' eU hk=>ah.2 ⟨ha,d1 _ (d2 _ (d3 _ (ah.2 ⟨h3.1,hk⟩)))⟩⟩
  ·replace hp:=ah.1 hp
   obtain⟨ha,hp⟩:=hp;obtain⟨hp,dl⟩:=fC hp;obtain⟨l,h1,d1⟩:=eF hp;obtain⟨hh,h2,d2⟩:=eF h1;obtain⟨mm,h3,d3⟩:=eF h2
   replace h3:=ah.1 h3
   exact⟨_,h3.2,fun K' eU hk=>ah.2 ⟨ha,dl _ (d1 _ (d2 _ (d3 _ (ah.2 ⟨h3.1,hk⟩))))⟩⟩
  ·obtain⟨l,h1,d1⟩:=eF hp
   obtain⟨hh,h2,d2⟩:=eF h1;obtain⟨mm,h3,d3⟩:=eF h2
   replace h3:=ah.1 h3
   exact⟨_,h3.2,fun K' eU hk=>d1 _ (d2 _ (d3 _ (ah.2 ⟨h3.1,hk⟩)))⟩
  ·exact hp.elim
 case gW z ok m x _=>
  simp only[bw,aE]at hp ⊢;obtain⟨n,l⟩:=h;split at hp
  ·rename_i hev
   replace hp:=ah.1 hp
   cases ok<;>exact⟨_,hp.2,fun K' eU hk=>ah.2 ⟨hp.1,hk⟩⟩
  ·rename_i i g n' l' hev hh
   cases hh
   simp only[aW]at hp ⊢;split at hp
   ·rename_i ob bS
    split at hp
    ·rename_i es cl
     replace hp:=ah.1 hp
     obtain⟨r,hk,hd⟩:=we hp.2;cases r with
     |none=>cases ok<;>exact⟨_,hk,fun K' eU hk'=>ah.2 ⟨hp.1,hd _ hk'⟩⟩
     |some p=>cases ok<;>exact⟨_,hk,fun K' eU hk'=>ah.2 ⟨hp.1,hd _ hk'⟩⟩
    ·exact hp.elim
   ·exact hp.elim
  ·exact hp.elim
 case Bj x=>
  simp only[bw,aE]at hp ⊢;obtain⟨n,l⟩:=h;split at hp
  ·rename_i hev
   exact⟨_,hp,fun K' eU hk=>hk⟩
  ·rename_i i g n' l' hev hh
   cases hh
   simp only[aW]at hp ⊢;split at hp
   ·rename_i ob bS
    split at hp
    ·rename_i es cl
     replace hp:=ah.1 hp
     exact⟨_,hp.2,fun K' eU hk'=>ah.2 ⟨hp.1,hk'⟩⟩
    ·exact hp.elim
   ·exact hp.elim
  ·exact hp.elim
 case fieldAddr off x=>
  simp only[bw,aE]at hp ⊢;split at hp
  ·obtain⟨hp,dl⟩:=fC hp;exact⟨_,hp,fun K' eU hk=>dl _ hk⟩
  ·exact⟨_,hp,fun K' eU hk=>hk⟩
  ·exact hp.elim
 case indexAddr sz x i=>
  simp only[bw,aE]at hp ⊢;split at hp
  ·replace hp:=ah.1 hp
   obtain⟨ha,hp⟩:=hp
   replace hp:=ah.1 hp
   exact⟨_,hp.2,fun K' eU hk=>ah.2 ⟨ha,ah.2 ⟨hp.1,hk⟩⟩⟩
  ·replace hp:=ah.1 hp
   obtain⟨ha,hp⟩:=hp;obtain⟨hp,dl⟩:=fC hp
   replace hp:=ah.1 hp
   exact⟨_,hp.2,fun K' eU hk=>ah.2 ⟨ha,dl _ (ah.2 ⟨hp.1,hk⟩)⟩⟩
  ·exact hp.elim
 case dD n sz x i=>
  simp only[bw,aE]at hp ⊢;split at hp
  ·replace hp:=ah.1 hp
   obtain⟨ha,hp⟩:=hp;obtain⟨v,hk,hd⟩:=Gi hp;exact⟨_,hk,fun K' eU hk'=>ah.2 ⟨ha,hd (fun v=>K' v h) hk'⟩⟩
  ·replace hp:=ah.1 hp
   obtain⟨ha,hp⟩:=hp;split at hp
   ·rename_i v hv
    exact⟨_,hp,fun K' eU hk=>ah.2 ⟨ha,hk⟩⟩
   ·exact hp.elim
  ·replace hp:=ah.1 hp
   exact⟨_,hp.2,fun K' eU hk=>ah.2 ⟨hp.1,hk⟩⟩
  ·exact hp.elim
 case J0 neg x y _=>
  cases neg<;>simp only[bw,aE]at hp ⊢ <;>split at hp<;>first
   |exact hp.elim
   |exact⟨_,hp,fun K' eU hk=>hk⟩
   |(obtain⟨hp,dl⟩:=fC hp;exact⟨_,hp,fun K' eU hk=>dl _ hk⟩)
   |(replace hp:=ah.1 hp;exact⟨_,hp.2,fun K' eU hk=>ah.2 ⟨hp.1,hk⟩⟩)
 case aI x=>
  simp only[bw,aE]at hp ⊢;split at hp
  ·obtain⟨hp,dl⟩:=fC hp;exact⟨_,hp,fun K' eU hk=>dl _ hk⟩
  ·exact⟨_,hp,fun K' eU hk=>hk⟩
  ·exact⟨_,hp,fun K' eU hk=>hk⟩
  ·exact hp.elim
 case qi x=>
  simp only[bw,aE]at hp ⊢;split at hp
  ·exact⟨_,hp,fun K' eU hk=>hk⟩
  ·obtain⟨hp,dl⟩:=fC hp;exact⟨_,hp,fun K' eU hk=>dl _ hk⟩
  ·exact hp.elim
 case gx x=>
  simp only[bw,aE]at hp ⊢;split at hp
  ·exact⟨_,hp,fun K' eU hk=>hk⟩
  ·replace hp:=ah.1 hp
   obtain⟨h1,hp⟩:=hp;obtain⟨hp,dl⟩:=vR hp;exact⟨_,hp,fun K' eU hk=>ah.2 ⟨h1,dl _ hk⟩⟩
  ·exact hp.elim
 case rZ x=>
  obtain⟨n,l⟩:=h;simp only[bw,aE]at hp ⊢;split at hp
  ·exact⟨_,hp,fun K' eU hk=>hk⟩
  ·rename_i hh
   cases hh
   simp only[aW]at hp;split at hp
   ·rename_i ob bS
    split at hp
    ·replace hp:=ah.1 hp
     exact⟨_,hp.2,fun K' eU hk=>by simp only[aW,bS];exact ah.2 ⟨hp.1,hk⟩⟩
    ·exact hp.elim
   ·exact hp.elim
  ·exact hp.elim
 case kC u sz x=>
  obtain⟨n,l⟩:=h;simp only[bw,aE]at hp ⊢;split at hp
  ·exact⟨_,hp,fun K' eU hk=>hk⟩
  ·rename_i hh
   cases hh
   simp only[aW]at hp;split at hp
   ·rename_i ob bS
    split at hp
    ·replace hp:=ah.1 hp
     exact⟨_,hp.2,fun K' eU hk=>by simp only[aW,bS];exact ah.2 ⟨hp.1,hk⟩⟩
    ·exact hp.elim
   ·exact hp.elim
  ·exact hp.elim
 case Ie neg x y _=>
  simp only[bw,aE]at hp ⊢;cases neg
  ·obtain⟨b,hk,hd⟩:=zB hp
   exact⟨_,hk,fun K' eU hk'=>hd _ hk'⟩
  ·obtain⟨b,hk,hd⟩:=zB hp
   exact⟨_,hk,fun K' eU hk'=>hd _ hk'⟩
 case toStr x=>
  simp only[bw,aE]at hp ⊢;split at hp
  ·exact hp.elim
  ·rename_i hne
   obtain⟨xs,h1,d1⟩:=BM hp;obtain⟨ns,rfl,h2⟩:=jx h1;exact⟨_,h2,fun K' eU hk=>d1 _ (rz hk)⟩
 case len b x=>
  simp only[bw,aE]at hp ⊢;split at hp
  ·exact⟨_,hp,fun K' eU hk=>hk⟩
  ·exact⟨_,hp,fun K' eU hk=>hk⟩
  ·obtain⟨hp,dl⟩:=vR hp;exact⟨_,hp,fun K' eU hk=>dl _ hk⟩
  ·exact⟨_,hp,fun K' eU hk=>hk⟩
  ·exact hp.elim
end
end
end Ab
