/- Parts of the proof of PParserDepth, one behind the other, with short names. -/
import Derived.Test.YtbjifmbemdhndaaGreatDoorY33
import Derived.Test.YtbjifmbemdhndaaGreatDoorY22
set_option linter.unusedVariables false
set_option linter.unusedSimpArgs false
namespace Ab
open Go
section
theorem aP.fresh{P:Program}{f:FuncId}{us:List SV}{o:aA}{n:Nat}{l:List (Nat×aA)}{R:bV->Heap->Prop}(hl: ∀a∈us,bA a)(ho: ∀N,mN N o o)
  (hp:aP P f us ⟨0,[]⟩ fun r h'=> ∃j,r= .ret (.cJ j 0)/\h'.obj j=some o)(hR:R (.ret (.cJ n 0)) ⟨n+1,(n,o)::l⟩):aP P f us ⟨n,l⟩ R:=by
 refine⟨fun c w xs hr hs hv=> ?_⟩;have hlt: ∀j p,aG l j=some p->j<n:=fun j p hj=>hr.lt j p hj
 refine(aP.frame (N:=fun _ _=>False) (m:=0) (L:=[]) (l:=l) (n:=n) (args:=us) (R:=R) (fun k q hk=>by cases hk) (fun k q hk=>hk.elim) (fun k k' q h=>h.elim) (fun k q q' h=>h.elim) (l6 hl) (hp.mono fun r h' ⟨j,h1,h2⟩=> ?_)).calls c w xs hr hs hv;subst h1;refine⟨fun k q=>k=j/\q=n,.ret (.cJ n 0),⟨n+1,(n,o)::l⟩,⟨fun k q h=> .inr ⟨Nat.zero_le _,h.2▸Nat.le_refl _⟩,fun k k' q h h'=>h.1.trans h'.1.symm,fun k q q' h h'=>h.2.trans h'.2.symm,fun k q h _=>(by show q<n+1;omega),Nat.le_succ _,fun q p hq=> ?_,.ret (.cJ ⟨rfl,rfl⟩)⟩,hR⟩;have hq:aG ((n,o)::l) q=some p:=hq;by_cases h:q=n
 ·subst h
  rw[iB]at hq;cases hq
  exact⟨Nat.lt_succ_self _,.inl ⟨j,_,⟨rfl,rfl⟩,h2,ho _⟩⟩
 ·rw[iC (by omega)]at hq
  exact⟨Nat.lt_succ_of_lt (hlt q _ hq),.inr ⟨hq,fun k hk=>hk⟩⟩
def Nj:Env->Env->Prop
 | [],_=>True
 |(k,v)::r,e=>Env.get e k=v/\Nj r e
theorem AL{e:Env}: ∀ {l:Env},Nj l e-> ∀t,Env.get l t= .undef\/Env.get l t=Env.get e t
 | [],_,t=> .inl rfl
 |(k,v)::r,h,t=>by
  by_cases ht:k=t
  ·subst ht
   have e1:Env.get ((k,v)::r) k=v:=by rw[Env.get,Nat.beq_refl];rfl
   rw[e1];exact .inr h.1.symm
  ·have hb:Nat.beq k t=false:=by
    cases h:Nat.beq k t with
    |false=>rfl
    |true=>exact absurd (Nat.eq_of_beq_eq_true h) ht
   have e1:Env.get ((k,v)::r) t=Env.get r t:=by rw[Env.get,hb];rfl
   rw[e1];exact AL h.2 t
theorem dx.out{P:Program}{b:bD}{Q:ck->Env->Heap->Prop}{e:Env}{h:Heap}{σ:Type}(j:Nat)(env:σ->Env)(hp:σ->Heap)
  (hl:dx P b (fun x e' h'=> ∃s,x= .exit j/\Nj (env s) e'/\(hp s).dA=h'.dA/\ ∀i o,aG (hp s).l i=some o->aG h'.l i=some o) e h)(hq: ∀s,Q (.exit j) (env s) (hp s)):dx P b Q e h:=
 ⟨fun n code hm ho hc c w a hr he hn=>wp_mono (hl.run n code hm ho hc c w a hr he hn) fun ex a' w' hpost=>by
  obtain⟨c',h',e',x,⟨s,rfl,h0,h1,h2⟩,hr',ng,he',hn',hd',hex⟩:=hpost;have hs:Pe (hp s) h':=⟨h1,fun i o ho=>⟨o,h2 i o ho,.refl o⟩⟩;refine⟨c',hp s,env s,.exit j,hq s,hr'.hle hs,ng.trans hr (Ext.hle hs),fun t=> ?_,hn',hd',by cases ex<;>first|exact hex|exact hex.elim⟩;rcases AL h0 t with hg|hg
  ·rw[hg];exact .undef
  ·rw[hg];exact(he' t).hle hs⟩
def KZ:List (Nat×aA)->List (Nat×aA)->Prop
 | [],_=>True
 |(k,o)::r,l=>aG l k=some o/\KZ r l
theorem fY{l:List (Nat×aA)}: ∀ {m:List (Nat×aA)},KZ m l-> ∀i o,aG m i=some o->aG l i=some o
 | [],_,i,o,h=>by cases h
 |(k,p)::r,h,i,o,hi=>by
  by_cases hk:k=i
  ·subst hk;rw[iB]at hi;cases hi;exact h.1
  ·rw[iC hk]at hi;exact fY h.2 i o hi
section
variable {P:Program} {f:FuncId} {ty:TypeId} {sz:Nat} {o o':SV->aA} {us xs ys:List SV}
theorem S1{sz:Nat}{pre post:List SV}{sk:Sk}(h1: ∀a∈pre,bA a)(h2: ∀a∈post,bA a):wX fun v=> .vec 0 sz [.agg (pre++v::post)] sk:=by
 have mid: ∀ {R:SV->SV->Prop} {v v':SV},(∀ a,bA a->R a a)->R v v'-> ∀(i:Nat) (u u':SV),(pre++v::post)[i]? =some u->(pre++v'::post)[i]? =some u'->R u u':=by
  intro R v v' hl hv i u u' a b;rcases Nat.lt_trichotomy i pre.length with h|h|h
  ·rw[List.getElem?_append_left h]at a b
   rw[a]at b;cases b
   exact hl u (h1 u (List.mem_of_getElem? a))
  ·subst h
   simp at a b;subst a;subst b
   exact hv
  ·rw[List.getElem?_append_right (by omega)]at a b
   obtain⟨k,hk⟩: ∃k,i-pre.length=k+1:=⟨i-pre.length-1,by omega⟩;rw[hk]at a b;simp at a b;rw[a]at b;cases b
   exact hl u (h2 u (List.mem_of_getElem? a))
 refine⟨fun{N v v'} h=> .vec rfl fun i u u' a b=> ?_,fun{A v v'} h=>eH (.agg (by simp) (mid (fun a ha=> .lit ha) h))⟩;cases i with
 |zero=>
  simp at a b;subst a;subst b
  exact .agg (by simp) (mid (fun a ha=> .lit ha) h)
 |succ i=>simp at a
inductive WH(sz:Nat)(ty:TypeId)(o:SV->aA):List SV->Heap->Prop
 |E:WH sz ty o [] ⟨1,[(0,o .ak)]⟩
 |L {g:Nat} {x:SV} {xs:List SV}:WH sz ty o (x::xs) ⟨2,[(1,.vec g sz (x::xs) ⟨true,some ty⟩),(0,o (.sl 1 g sz 0 (xs.length+1) none))]⟩
def WE(sz:Nat)(ty:TypeId)(o':SV->aA)(xs ys:List SV)(h':Heap):Prop:=match xs,ys with
 | [],[]=>h'.obj 0=some (o' .ak)
 | [],_::_=> ∃j g,0<j/\h'.obj 0=some (o' (.sl j g sz 0 ys.length none))/\h'.obj j=some (.vec g sz ys ⟨true,some ty⟩)
 |_::_,_=> ∃g,h'.obj 0=some (o' (.sl 1 g sz 0 ys.length none))/\h'.obj 1=some (.vec g sz ys ⟨true,some ty⟩)
theorem WE.E{j g n:Nat}{h':Heap}(hne:ys≠[])(hj:0<j)(hn:n=ys.length)(h0:h'.obj 0=some (o' (.sl j g sz 0 n none)))(h1:h'.obj j=some (.vec g sz ys ⟨true,some ty⟩)):WE sz ty o' [] ys h':=by
 subst hn;cases ys with
 |nil=>exact absurd rfl hne
 |cons y yr=>exact⟨j,g,hj,h0,h1⟩
theorem WE.L{x:SV}{g n:Nat}{h':Heap}(hn:n=ys.length)(h0:h'.obj 0=some (o' (.sl 1 g sz 0 n none)))(h1:h'.obj 1=some (.vec g sz ys ⟨true,some ty⟩)):WE sz ty o' (x::xs) ys h':=by
 subst hn;exact⟨g,h0,h1⟩
structure oU(P:Program)(f:FuncId)(us:List SV)(sz:Nat)(ty:TypeId)(o o':SV->aA)(xs ys:List SV):Prop where
 args: ∀a∈us,bA a
 ok:wX o
 ok':wX o'
 lit: ∀v∈xs,bA v
 lit': ∀v∈ys,bA v
 run: ∀h,WH sz ty o xs h->aP P f (.ref 0 0 0 0::us) h fun r h'=>r= .ret (.aN [])/\WE sz ty o' xs ys h'
theorem HO{n:Nat}{l:List (Nat×aA)}{args:List SV}{R:bV->Heap->Prop}(h:(∀ j p,aG l j=some p->j<n)->aP P f args ⟨n,l⟩ R):aP P f args ⟨n,l⟩ R:=
 ⟨fun c w xs hr hs hv=>(h fun j p hj=>hr.lt j p hj).calls c w xs hr hs hv⟩
theorem oU.QF(hp:oU P f us sz ty o o' xs ys){i j g n k:Nat}{l:List (Nat×aA)}{R:bV->Heap->Prop}(hi:aG l i=some (o (.sl j g sz 0 k none)))(hj:aG l j=some (.vec g sz xs ⟨true,some ty⟩))(hk:k=xs.length)(hx:xs≠[])(hij:i≠j)
  (hR: ∀g',R (.ret (.aN [])) ⟨n,bC (bC l i (o' (.sl j g' sz 0 ys.length none))) j (.vec g' sz ys ⟨true,some ty⟩)⟩):aP P f (.ref i 0 0 0::us) ⟨n,l⟩ R:=by
 subst hk;refine HO fun hlt=> ?_
 obtain⟨x,xr,rfl⟩: ∃x xr,xs=x::xr:=by cases xs with|nil=>exact absurd rfl hx|cons x xr=>exact⟨x,xr,rfl⟩
 have hil:=hlt i _ hi;have hjl:=hlt j _ hj
 refine aP.frame (N:=fun k q=>(k=0/\q=i)\/(k=1/\q=j)) (m:=2) (L:=[(1,.vec g sz (x::xr) ⟨true,some ty⟩),(0,o (.sl 1 g sz 0 (xr.length+1) none))]) (args:= .ref 0 0 0 0::us)
  (fun k q hk=> ?_) (fun k q hk=> ?_) (fun k k' q h h'=>by omega) (fun k q q' h h'=>by omega) (.cons (.ref (.inl ⟨rfl,rfl⟩)) (l6 hp.args)) ((hp.run _ .L).mono fun r h' ⟨hr,hw⟩=> ?_)
 ·unfold aG at hk
  split at hk
  ·rename_i h;subst h;cases hk
   exact⟨by decide,j,_,.inr ⟨rfl,rfl⟩,hj,yq hp.lit⟩
  ·unfold aG at hk
   split at hk
   ·rename_i h;subst h;cases hk
    exact⟨by decide,i,_,.inl ⟨rfl,rfl⟩,hi,hp.ok.Ck (.sl (.inr ⟨rfl,rfl⟩))⟩
   ·cases hk
 ·rcases hk with⟨rfl,rfl⟩|⟨rfl,rfl⟩
  ·exact⟨by decide,_,rfl⟩
  ·exact⟨by decide,_,rfl⟩
 ·subst hr
  obtain⟨g',h0,h1⟩:=hw;refine⟨fun k q=>(k=0/\q=i)\/(k=1/\q=j),.ret (.aN []),⟨n,bC (bC l i (o' (.sl j g' sz 0 ys.length none))) j (.vec g' sz ys ⟨true,some ty⟩)⟩,⟨fun k q h=> .inl ⟨by omega,h⟩,fun k k' q h h'=>by omega,fun k q q' h h'=>by omega,fun k q h _=>(by show q<n;rcases h with⟨_,rfl⟩|⟨_,rfl⟩<;>assumption),Nat.le_refl _,fun q p hq=> ?_,.ret (.lit (.aN (by simp)))⟩,hR g'⟩;have hq:aG (bC (bC l i (o' (.sl j g' sz 0 ys.length none))) j (.vec g' sz ys ⟨true,some ty⟩)) q=some p:=hq;by_cases h:q=j
  ·subst h
   rw[eM (o:= .vec g sz (x::xr) ⟨true,some ty⟩) (by rw[cG (by omega)];exact hj)]at hq;cases hq
   exact⟨hjl,.inl ⟨1,_,.inr ⟨rfl,rfl⟩,h1,yq hp.lit'⟩⟩
  ·rw[cG h]at hq
   by_cases h2:q=i
   ·subst h2
    rw[eM hi]at hq;cases hq
    exact⟨hil,.inl ⟨0,_,.inl ⟨rfl,rfl⟩,h0,hp.ok'.Ck (.sl (.inr ⟨rfl,rfl⟩))⟩⟩
   ·rw[cG h2]at hq
    exact⟨hlt q _ hq,.inr ⟨hq,fun k hk=>by omega⟩⟩
theorem oU.QG(hp:oU P f us sz ty o o' [] []){i n:Nat}{l:List (Nat×aA)}{R:bV->Heap->Prop}(hi:aG l i=some (o .ak))
  (hR:R (.ret (.aN [])) ⟨n,bC l i (o' .ak)⟩):aP P f (.ref i 0 0 0::us) ⟨n,l⟩ R:=by
 refine HO fun hlt=> ?_
 have hil:=hlt i _ hi
 refine aP.frame (N:=fun k q=>k=0/\q=i) (m:=1) (L:=[(0,o .ak)]) (args:= .ref 0 0 0 0::us)
  (fun k q hk=> ?_) (fun k q hk=> ?_) (fun k k' q h h'=>by omega) (fun k q q' h h'=>by omega) (.cons (.ref ⟨rfl,rfl⟩) (l6 hp.args)) ((hp.run _ .E).mono fun r h' ⟨hr,hw⟩=> ?_)
 ·unfold aG at hk
  split at hk
  ·rename_i h;subst h;cases hk
   exact⟨by decide,i,_,⟨rfl,rfl⟩,hi,hp.ok.Ck (.lit .ak)⟩
  ·cases hk
 ·obtain⟨rfl,rfl⟩:=hk
  exact⟨by decide,_,rfl⟩
 ·subst hr
  have h0:h'.obj 0=some (o' .ak):=hw;refine⟨fun k q=>k=0/\q=i,.ret (.aN []),⟨n,bC l i (o' .ak)⟩,⟨fun k q h=> .inl ⟨by omega,h⟩,fun k k' q h h'=>by omega,fun k q q' h h'=>by omega,fun k q h _=>(by show q<n;rw[h.2];exact hil),Nat.le_refl _,fun q p hq=> ?_,.ret (.lit (.aN (by simp)))⟩,hR⟩;have hq:aG (bC l i (o' .ak)) q=some p:=hq;by_cases h2:q=i
  ·subst h2
   rw[eM hi]at hq;cases hq
   exact⟨hil,.inl ⟨0,_,⟨rfl,rfl⟩,h0,hp.ok'.Ck (.lit .ak)⟩⟩
  ·rw[cG h2]at hq
   exact⟨hlt q _ hq,.inr ⟨hq,fun k hk=>by omega⟩⟩
theorem oU.QH(hp:oU P f us sz ty o o' [] ys){i n:Nat}{l:List (Nat×aA)}{R:bV->Heap->Prop}(hy:ys≠[])(hi:aG l i=some (o .ak))
  (hR: ∀g',R (.ret (.aN [])) ⟨n+1,(n,.vec g' sz ys ⟨true,some ty⟩)::bC l i (o' (.sl n g' sz 0 ys.length none))⟩):aP P f (.ref i 0 0 0::us) ⟨n,l⟩ R:=by
 refine HO fun hlt=> ?_
 obtain⟨y,yr,rfl⟩: ∃x xr,ys=x::xr:=by cases ys with|nil=>exact absurd rfl hy|cons x xr=>exact⟨x,xr,rfl⟩
 have hil:=hlt i _ hi
 refine aP.frame (N:=fun k q=>k=0/\q=i) (m:=1) (L:=[(0,o .ak)]) (args:= .ref 0 0 0 0::us)
  (fun k q hk=> ?_) (fun k q hk=> ?_) (fun k k' q h h'=>by omega) (fun k q q' h h'=>by omega) (.cons (.ref ⟨rfl,rfl⟩) (l6 hp.args)) ((hp.run _ .E).mono fun r h' ⟨hr,hw⟩=> ?_)
 ·unfold aG at hk
  split at hk
  ·rename_i h;subst h;cases hk
   exact⟨by decide,i,_,⟨rfl,rfl⟩,hi,hp.ok.Ck (.lit .ak)⟩
  ·cases hk
 ·obtain⟨rfl,rfl⟩:=hk
  exact⟨by decide,_,rfl⟩
 ·subst hr
  obtain⟨j,g',hj0,h0,h1⟩:=hw;refine⟨fun k q=>(k=0/\q=i)\/(k=j/\q=n),.ret (.aN []),⟨n+1,(n,.vec g' sz (y::yr) ⟨true,some ty⟩)::bC l i (o' (.sl n g' sz 0 (y::yr).length none))⟩,⟨fun k q h=> ?_,fun k k' q h h'=>by omega,fun k q q' h h'=>by omega,fun k q h _=>(by show q<n+1;omega),Nat.le_succ _,fun q p hq=> ?_,.ret (.lit (.aN (by simp)))⟩,hR g'⟩
  ·rcases h with⟨rfl,rfl⟩|⟨rfl,rfl⟩
   ·exact .inl ⟨by decide,rfl,rfl⟩
   ·exact .inr ⟨hj0,Nat.le_refl _⟩
  have hq:aG ((n,.vec g' sz (y::yr) ⟨true,some ty⟩)::bC l i (o' (.sl n g' sz 0 (y::yr).length none))) q=some p:=hq;by_cases Wg:q=n
  ·subst Wg
   rw[iB]at hq;cases hq
   exact⟨Nat.lt_succ_self _,.inl ⟨j,_,.inr ⟨rfl,rfl⟩,h1,yq hp.lit'⟩⟩
  ·rw[iC (by omega)]at hq
   by_cases h2:q=i
   ·subst h2
    rw[eM hi]at hq;cases hq
    exact⟨Nat.lt_succ_of_lt hil,.inl ⟨0,_,.inl ⟨rfl,rfl⟩,h0,hp.ok'.Ck (.sl (.inr ⟨rfl,rfl⟩))⟩⟩
   ·rw[cG h2]at hq
    exact⟨Nat.lt_succ_of_lt (hlt q _ hq),.inr ⟨hq,fun k hk=>by omega⟩⟩
end
end
end Ab
namespace Go.Proofs.YtbjifmbemdhndaaGreatDoor
open Ab Go.RowKit
set_option maxRecDepth 100000
set_option maxHeartbeats 4000000
attribute [local irreducible] aO bx
@[reducible] def mc (b:Bool) (v:SV):aA:= .vec 0 2 [.agg [v,.bool b]] ⟨false,some 73⟩
theorem yu(b:Bool):wX (mc b):=S1 (pre:=[]) (post:=[.bool b]) (fun _ h=>by simp at h) (fun a h=>by simp at h;subst h;exact .bool _)
@[reducible] def wY (x:Tk):SV:=gm (x,0)
@[reducible] def WC (f:FuncId) (us:List SV) (b b':Bool) (xs ys:List Tk):Prop:=oU Tryz.prog f us 4 57 (mc b) (mc b') (xs.map wY) (ys.map wY)
theorem qP(xs:List Tk): ∀v∈xs.map wY,bA v:=fun v h=>by obtain⟨x,_,rfl⟩:=List.mem_map.1 h;exact l5 _
theorem S2{s:List UInt8}(h:s≠[])(h2:(97<=(s.getD 0 0).toNat/\(s.getD 0 0).toNat<=122)\/(s.getD 0 0).toNat=95):(⟨1,s,0⟩:Tk)=bg s:=by
 unfold bg SA;rw[if_pos ⟨h,h2⟩]
theorem OQ{s:List UInt8}(h:s=[]\/ ¬((97<=(s.getD 0 0).toNat/\(s.getD 0 0).toNat<=122)\/(s.getD 0 0).toNat=95)):(⟨4,s,0⟩:Tk)=bg s:=by
 unfold bg SA;rw[if_neg fun⟨a,b⟩=>h.elim a fun h=>h b]
theorem uR{ws:List (List UInt8)}{i:Nat}(h:i<ws.length){t:Tk}(ht:t=bg (ws.getD i [])):(ws.take (i+1)).map bg=(ws.take i).map bg++[t]:=by
 rw[List.take_add_one,List.map_append,ht];simp[List.getD,h]
@[reducible] def nY (g:Nat) (xs:List Tk):aA:= .vec g 4 (xs.map wY) ⟨true,some 57⟩
theorem nz{s:List UInt8}(h:(!s==[])=true)(h2:(decide ((0:Int)<=0)&&decide ((0:Int)<(s.length:Int)))=false):False:=by
 cases s with
 |nil=>simp at h
 |cons a r=>simp at h2
inductive qY(ws:List (List UInt8)) where
 |E
 |L (i g:Nat) (hi:i<ws.length)
@[reducible] def qY.at_ {ws:List (List UInt8)}:qY ws->Nat
  | .E=>0
  | .L i _ _=>i+1
@[reducible] def qY.hp {ws:List (List UInt8)} (b:Bool):qY ws->Heap
  | .E=>⟨1,[(0,mc b .ak)]⟩
  | .L i g _=>⟨3,[(2,nY g ((ws.take (i+1)).map bg)),(1,.vec 0 4 [wY (bg (ws.getD 0 []))] ⟨false,some 57⟩),(0,mc b (.sl 2 g 4 0 ((ws.take (i+1)).map bg).length none))]⟩
theorem S3{ws:List (List UInt8)}{b:Bool}{k:Int}(hi:0<ws.length)(h:(⟨k,ws.getD 0 [],0⟩:Tk)=bg (ws.getD 0 [])):
  (⟨3,[(2,.vec 0 4 [gm (⟨k,ws.getD 0 [],0⟩,0)] ⟨true,some 57⟩),(1,.vec 0 4 [gm (⟨k,ws.getD 0 [],0⟩,0)] ⟨false,some 57⟩),(0,mc b (.sl 2 0 4 0 1 none))]⟩:Heap)=qY.hp b (.L 0 0 hi):=by
 have e:=uR hi h;rw[List.take_zero,List.map_nil,List.nil_append]at e;unfold qY.hp;dsimp only;rw[e,<-h];rfl
theorem S4{ws:List (List UInt8)}{b:Bool}{k:Int}{i g:Nat}(hi:i+1<ws.length)(h:(⟨k,ws.getD (i+1) [],0⟩:Tk)=bg (ws.getD (i+1) [])):
  (⟨3,[(2,.vec (g+1) 4 (((ws.take (i+1)).map bg).map wY++[gm (⟨k,ws.getD (i+1) [],0⟩,0)]) ⟨true,some 57⟩),(1,.vec 0 4 [wY (bg (ws.getD 0 []))] ⟨false,some 57⟩),(0,mc b (.sl 2 (g+1) 4 0 (((ws.take (i+1)).map bg).length+1) none))]⟩:Heap)=qY.hp b (.L (i+1) (g+1) hi):=by
 have e:=uR hi h;unfold qY.hp nY;dsimp only;rw[e,List.map_append,List.length_append];rfl
def jb(xs:List Tk)(ws:List (List UInt8)):Nat->List Tk
 |0=>xs
 |i+1=>jb xs ws i++[bg (ws.getD i [])]
theorem wZ(xs:List Tk)(ws:List (List UInt8)): ∀i,i<=ws.length->jb xs ws i=xs++(ws.take i).map bg
 |0,_=>by simp[jb]
 |i+1,h=>by rw[jb,wZ xs ws i (by omega),uR h rfl,List.append_assoc]
theorem QI{ws:List (List UInt8)}{b:Bool}{k:Int}{i g n:Nat}{xs:List Tk}(h:(⟨k,ws.getD i [],0⟩:Tk)=bg (ws.getD i []))(hn:n=(jb xs ws i).length):
  (⟨2,[(1,.vec (g+1) 4 ((jb xs ws i).map wY++[gm (⟨k,ws.getD i [],0⟩,0)]) ⟨true,some 57⟩),(0,mc b (.sl 1 (g+1) 4 0 (n+1) none))]⟩:Heap)=
    ⟨2,[(1,nY (g+1) (jb xs ws (i+1))),(0,mc b (.sl 1 (g+1) 4 0 (jb xs ws (i+1)).length none))]⟩:=by
 subst hn;unfold nY;rw[h,jb,List.map_append,List.length_append];rfl
theorem UB{n:Nat}{xs:List Tk}{y:TP}: ∀v∈xs.map wY++[gm y],SV.lt 8 n v=true:=by
 intro v hv;rcases List.mem_append.1 hv with hv|hv
 ·obtain⟨b,_,rfl⟩:=List.mem_map.1 hv;rfl
 ·rw[List.mem_singleton.1 hv];rfl
theorem yw{m i g n:Nat}{vs:List SV}{v:TP}{sk:Sk}{l:List (Nat×aA)}{k:SV->Heap->Prop}(ho:aG l i=some (.vec g 4 vs ⟨true,some 57⟩))(hn:n=vs.length)(sC:i<m)(hlen:vs.length<=100000)
  (hk:k (.sl i (g+1) 4 0 (n+1) none) ⟨m+1,(m,.vec 0 4 [(gm v)] sk)::bC l i (.vec (g+1) 4 (vs++[gm v]) ⟨true,some 57⟩)⟩):
  aO 57 4 40 ⟨m+1,(m,.vec 0 4 [(gm v)] sk)::l⟩ (.sl i g 4 0 n none) (.sl m 0 4 0 1 (some 1)) k:=by
 subst hn;refine ov (lX iB rfl) (by simp) rfl (by rw[iC (by omega)];exact ho) (by simp) (by simp;omega) (by simp;omega) ?_;rw[dU];unfold bC;rw[if_neg (by omega),kP];exact hk
theorem Em{ws:List (List UInt8)}{b:Bool}{xs:List Tk}(hw:ws.length<=1000)(hx:xs.length<=60000):WC 65 [nj ws] b b xs (xs++ws.map bg):=by
 refine⟨bK (.eR ..),yu b,yu b,qP _,qP _,fun h hh=> ?_⟩;cases hxs:xs with
 |nil=>
  subst hxs;cases hh
  refine Hf.call mixed rfl ?_;iterate 10 all_goals ((try conv=>whnf);try first|(with_reducible first|refine zY ?_|refine zN ?_|refine zT ?_|refine br (fun _=> ?_) (fun _=> ?_)|refine⟨rfl,?_⟩))
  refine nT (σ:=qY ws) (fun y=>[(0,SV.ref 0 0 0 0),(1,nj ws),(7,nj ws),(8,SV.int IntKind.i64 ws.length),(9,SV.int IntKind.i64 y.at_)])
   (qY.hp b) (fun y=>ws.length-y.at_) (fun y=>3) (fun y=>match y with| .E=>(by show 1<=3;decide)| .L .. =>Nat.le_refl 3) ?_ .E
  rintro(_|⟨i,g,hi⟩)
  ·rcases Nat.eq_zero_or_pos ws.length with hz|hil
   ·obtain rfl:ws=[]:=List.eq_nil_of_length_eq_zero hz
    iterate 20 all_goals ((try conv=>whnf);try first|(with_reducible first|refine zY ?_|refine zN ?_|refine zT ?_|refine br (fun _=> ?_) (fun _=> ?_)|refine⟨rfl,?_⟩))
    exact rfl
   ·have hd:decide ((((qY.E:qY ws).at_:Nat):Int)<(ws.length:Int))=true:=decide_eq_true (by show(0:Int)<_;omega)
    have e7:IntKind.i64.wrap ((((qY.E:qY ws).at_:Nat):Int)+1)=((0+1:Nat):Int):=by rw[show (qY.E:qY ws).at_=0 from rfl];decide
    iterate 60 all_goals ((try conv=>whnf);try first|(with_reducible first|refine zY ?_|refine zN ?_|refine zT ?_|refine br (fun _=> ?_) (fun _=> ?_)|refine⟨rfl,?_⟩)|(refine qM (v:=(⟨_,ws.getD 0 [],0⟩,0)) ?_))
    all_goals first
     |exact nz (by assumption) (by assumption)
     |(refine⟨.L 0 0 hil,by show ws.length-1<ws.length-0;omega,by rw[e7],S3 hil ?_⟩
       simp only[qY.at_,Int.toNat_natCast,Int.toNat_zero,Bool.not_eq_true',Bool.not_eq_false',beq_eq_false_iff_ne,decide_eq_true_eq,decide_eq_false_iff_not,Bool.and_eq_true,beq_iff_eq]at*
       first|(refine S2 ?_ ?_;assumption;omega)|(refine OQ (.inl ?_);assumption)|(refine OQ (.inr ?_);omega))
  ·have e6:(qY.L i g hi).at_=i+1:=rfl
   have qg:Nat.beq g g=true:=dK g;by_cases hil:i+1<ws.length
   ·have hd:decide ((((qY.L i g hi).at_:Nat):Int)<(ws.length:Int))=true:=decide_eq_true (by rw[e6];omega)
    have hb:(decide ((0:Int)<=(((qY.L i g hi).at_:Nat):Int))&&decide ((((qY.L i g hi).at_:Nat):Int)<(ws.length:Int)))=true:=by rw[e6];simp only[Bool.and_eq_true,decide_eq_true_eq];omega
    have e7:IntKind.i64.wrap ((((qY.L i g hi).at_:Nat):Int)+1)=((i+1+1:Nat):Int):=bL (by rw[e6];omega);iterate 60 all_goals ((try conv=>whnf);try first|(with_reducible first|refine zY ?_|refine zN ?_|refine zT ?_|refine br (fun _=> ?_) (fun _=> ?_)|refine⟨rfl,?_⟩)|(refine yw (v:=(⟨_,ws.getD (i+1) [],0⟩,0)) rfl (by simp) (by decide) (by simp;omega) ?_)|(refine bh UB ?_)|(refine bh (gR rfl) ?_))
    all_goals first
     |exact nz (by assumption) (by assumption)
     |(refine⟨.L (i+1) (g+1) hil,by show ws.length-(i+1+1)<ws.length-(i+1);omega,by rw[e7],S4 hil ?_⟩
       simp only[qY.at_,Int.toNat_natCast,Int.toNat_zero,Bool.not_eq_true',Bool.not_eq_false',beq_eq_false_iff_ne,decide_eq_true_eq,decide_eq_false_iff_not,Bool.and_eq_true,beq_iff_eq]at*
       first|(refine S2 ?_ ?_;assumption;omega)|(refine OQ (.inl ?_);assumption)|(refine OQ (.inr ?_);omega))
   ·have hd:decide ((((qY.L i g hi).at_:Nat):Int)<(ws.length:Int))=false:=decide_eq_false (by rw[e6];omega)
    have ht:ws.take (i+1)=ws:=List.take_of_length_le (by omega);have h2:qY.hp b (qY.L i g hi)=⟨3,[(2,nY g (ws.map bg)),(1,.vec 0 4 [wY (bg (ws.getD 0 []))] ⟨false,some 57⟩),(0,mc b (.sl 2 g 4 0 (ws.map bg).length none))]⟩:=by unfold qY.hp;dsimp only;rw[ht]
    rw[h2];iterate 20 all_goals ((try conv=>whnf);try first|(with_reducible first|refine zY ?_|refine zN ?_|refine zT ?_|refine br (fun _=> ?_) (fun _=> ?_)|refine⟨rfl,?_⟩))
    exact WE.E (by simp;intro h;rw[h]at hi;simp at hi) (by decide) (by simp) rfl rfl
 |cons x xr=>
  subst hxs;cases hh
  rename_i g0;refine Hf.call mixed rfl ?_;iterate 10 all_goals ((try conv=>whnf);try first|(with_reducible first|refine zY ?_|refine zN ?_|refine zT ?_|refine br (fun _=> ?_) (fun _=> ?_)|refine⟨rfl,?_⟩))
  rw[List.length_map]
  refine nT (σ:={i:Nat // i<=ws.length}×Nat) (fun y=>[(0,SV.ref 0 0 0 0),(1,nj ws),(7,nj ws),(8,SV.int IntKind.i64 ws.length),(9,SV.int IntKind.i64 y.1.1)])
   (fun y=>⟨2,[(1,nY y.2 (jb (x::xr) ws y.1.1)),(0,mc b (.sl 1 y.2 4 0 (jb (x::xr) ws y.1.1).length none))]⟩) (fun y=>ws.length-y.1.1) (fun y=>2) (fun y=>Nat.le_refl 2) ?_ (⟨0,Nat.zero_le _⟩,g0)
  rintro⟨⟨i,hi⟩,g⟩;dsimp only
  ·skip
   have qg:Nat.beq g g=true:=dK g;have hr:=wZ (x::xr) ws i hi;have hrl:(jb (x::xr) ws i).length<=61000:=by rw[hr];simp at hx ⊢;omega
   by_cases hil:i<ws.length
   ·have hd:decide ((i:Int)<(ws.length:Int))=true:=decide_eq_true (by omega)
    have hb:(decide ((0:Int)<=(i:Int))&&decide ((i:Int)<(ws.length:Int)))=true:=by simp only[Bool.and_eq_true,decide_eq_true_eq];omega
    have e7:IntKind.i64.wrap ((i:Int)+1)=((i+1:Nat):Int):=bL (by omega);iterate 60 all_goals ((try conv=>whnf);try first|(with_reducible first|refine zY ?_|refine zN ?_|refine zT ?_|refine br (fun _=> ?_) (fun _=> ?_)|refine⟨rfl,?_⟩)|(refine yw (v:=(⟨_,ws.getD i [],0⟩,0)) rfl (by simp) (by decide) (by simp;omega) ?_)|(refine bh UB ?_)|(refine bh (gR rfl) ?_))
    all_goals first
     |exact nz (by assumption) (by assumption)
     |(refine⟨(⟨i+1,hil⟩,g+1),by show ws.length-(i+1)<ws.length-i;omega,by rw[e7],QI ?_ rfl⟩
       simp only[qY.at_,Int.toNat_natCast,Int.toNat_zero,Bool.not_eq_true',Bool.not_eq_false',beq_eq_false_iff_ne,decide_eq_true_eq,decide_eq_false_iff_not,Bool.and_eq_true,beq_iff_eq]at*
       first|(refine S2 ?_ ?_;assumption;omega)|(refine OQ (.inl ?_);assumption)|(refine OQ (.inr ?_);omega))
   ·have hd:decide ((i:Int)<(ws.length:Int))=false:=decide_eq_false (by omega)
    rw[hr,show ws.take i=ws from List.take_of_length_le (by omega)];iterate 20 all_goals ((try conv=>whnf);try first|(with_reducible first|refine zY ?_|refine zN ?_|refine zT ?_|refine br (fun _=> ?_) (fun _=> ?_)|refine⟨rfl,?_⟩))
    exact WE.L (x:=wY x) (xs:=xr.map wY) (by simp) rfl rfl
end Go.Proofs.YtbjifmbemdhndaaGreatDoor
