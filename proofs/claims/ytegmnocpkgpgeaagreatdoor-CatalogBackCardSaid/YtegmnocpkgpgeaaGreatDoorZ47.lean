/- Parts of the proof of PCatalogBack, one behind the other, with short names. -/
import Derived.Test.YtegmnocpkgpgeaaGreatDoorZ33
import Derived.Test.YtegmnocpkgpgeaaGreatDoorZ45
import Derived.Test.YtegmnocpkgpgeaaGreatDoorZ46
set_option linter.unusedVariables false
set_option linter.unusedSimpArgs false
namespace Ab
open Go
section
theorem aC.fresh{P:Program}{f:FuncId}{us:List SV}{o:ai}{n:Nat}{l:List (Nat×ai)}{R:bu->Heap->Prop}(hl: ∀a∈us,aL a)(ho: ∀N,k8 N o o)
  (hp:aC P f us ⟨0,[]⟩ fun r h'=> ∃j,r= .ret (.cW j 0)/\h'.obj j=some o)(hR:R (.ret (.cW n 0)) ⟨n+1,(n,o)::l⟩):aC P f us ⟨n,l⟩ R:=by
 refine⟨fun c w xs hr hs hv=> ?_⟩;have hlt: ∀j p,ak l j=some p->j<n:=fun j p hj=>hr.lt j p hj
 refine(aC.frame (N:=fun _ _=>False) (m:=0) (L:=[]) (l:=l) (n:=n) (args:=us) (R:=R) (fun k q hk=>by cases hk) (fun k q hk=>hk.elim) (fun k k' q h=>h.elim) (fun k q q' h=>h.elim) (kG hl) (hp.mono fun r h' ⟨j,h1,h2⟩=> ?_)).calls c w xs hr hs hv;subst h1;refine⟨fun k q=>k=j/\q=n,.ret (.cW n 0),⟨n+1,(n,o)::l⟩,⟨fun k q h=> .inr ⟨Nat.zero_le _,h.2▸Nat.le_refl _⟩,fun k k' q h h'=>h.1.trans h'.1.symm,fun k q q' h h'=>h.2.trans h'.2.symm,fun k q h _=>(by show q<n+1;omega),Nat.le_succ _,fun q p hq=> ?_,.ret (.cW ⟨rfl,rfl⟩)⟩,hR⟩;have hq:ak ((n,o)::l) q=some p:=hq;by_cases h:q=n
 ·subst h
  rw[dD]at hq;cases hq
  exact⟨Nat.lt_succ_self _,.inl ⟨j,_,⟨rfl,rfl⟩,h2,ho _⟩⟩
 ·rw[aU (by omega)]at hq
  exact⟨Nat.lt_succ_of_lt (hlt q _ hq),.inr ⟨hq,fun k hk=>hk⟩⟩
def S3:Env->Env->Prop
 | [],_=>True
 |(k,v)::r,e=>Env.get e k=v/\S3 r e
theorem DO{e:Env}: ∀ {l:Env},S3 l e-> ∀t,Env.get l t= .undef\/Env.get l t=Env.get e t
 | [],_,t=> .inl rfl
 |(k,v)::r,h,t=>by
  by_cases ht:k=t
  ·subst ht
   have e1:Env.get ((k,v)::r) k=v:=by rw[Env.get,Nat.beq_refl];rfl
   rw[e1];exact .inr h.1.symm
  ·have hb:Nat.beq k t=false:=by
    cases h:Nat.beq k t with
    |false=>rfl
    |true=>exact absurd (Nat.eq_of_beq_eq_true h) ht
   have e1:Env.get ((k,v)::r) t=Env.get r t:=by rw[Env.get,hb];rfl
   rw[e1];exact DO h.2 t
theorem dR.out{P:Program}{b:bK}{Q:bS->Env->Heap->Prop}{e:Env}{h:Heap}{σ:Type}(j:Nat)(env:σ->Env)(hp:σ->Heap)
  (hl:dR P b (fun x e' h'=> ∃s,x= .exit j/\S3 (env s) e'/\(hp s).cI=h'.cI/\ ∀i o,ak (hp s).l i=some o->ak h'.l i=some o) e h)(hq: ∀s,Q (.exit j) (env s) (hp s)):dR P b Q e h:=
 ⟨fun n code hm ho hc c w a hr he hn=>wp_mono (hl.run n code hm ho hc c w a hr he hn) fun ex a' w' hpost=>by
  obtain⟨c',h',e',x,⟨s,rfl,h0,h1,h2⟩,hr',kA,he',hn',hd',hex⟩:=hpost;have hs:TN (hp s) h':=⟨h1,fun i o ho=>⟨o,h2 i o ho,.refl o⟩⟩;refine⟨c',hp s,env s,.exit j,hq s,hr'.hle hs,kA.trans hr (Ext.hle hs),fun t=> ?_,hn',hd',by cases ex<;>first|exact hex|exact hex.elim⟩;rcases DO h0 t with hg|hg
  ·rw[hg];exact .undef
  ·rw[hg];exact(he' t).hle hs⟩
def P8:List (Nat×ai)->List (Nat×ai)->Prop
 | [],_=>True
 |(k,o)::r,l=>ak l k=some o/\P8 r l
theorem qG{l:List (Nat×ai)}: ∀ {m:List (Nat×ai)},P8 m l-> ∀i o,ak m i=some o->ak l i=some o
 | [],_,i,o,h=>by cases h
 |(k,p)::r,h,i,o,hi=>by
  by_cases hk:k=i
  ·subst hk;rw[dD]at hi;cases hi;exact h.1
  ·rw[aU hk]at hi;exact qG h.2 i o hi
section
variable {P:Program} {f:FuncId} {ty:TypeId} {sz:Nat} {o o':SV->ai} {us xs ys:List SV}
theorem YG{sz:Nat}{pre post:List SV}{sk:Sk}(h1: ∀a∈pre,aL a)(h2: ∀a∈post,aL a):p9 fun v=> .vec 0 sz [.agg (pre++v::post)] sk:=by
 have mid: ∀ {R:SV->SV->Prop} {v v':SV},(∀ a,aL a->R a a)->R v v'-> ∀(i:Nat) (u u':SV),(pre++v::post)[i]? =some u->(pre++v'::post)[i]? =some u'->R u u':=by
  intro R v v' hl hv i u u' a b;rcases Nat.lt_trichotomy i pre.length with h|h|h
  ·rw[List.getElem?_append_left h]at a b
   rw[a]at b;cases b
   exact hl u (h1 u (List.mem_of_getElem? a))
  ·subst h
   simp at a b;subst a;subst b
   exact hv
  ·rw[List.getElem?_append_right (by omega)]at a b
   obtain⟨k,hk⟩: ∃k,i-pre.length=k+1:=⟨i-pre.length-1,by omega⟩;rw[hk]at a b;simp at a b;rw[a]at b;cases b
   exact hl u (h2 u (List.mem_of_getElem? a))
 refine⟨fun{N v v'} h=> .vec rfl fun i u u' a b=> ?_,fun{A v v'} h=>oK (.agg (by simp) (mid (fun a ha=> .lit ha) h))⟩;cases i with
 |zero=>
  simp at a b;subst a;subst b
  exact .agg (by simp) (mid (fun a ha=> .lit ha) h)
 |succ i=>simp at a
inductive WH(sz:Nat)(ty:TypeId)(o:SV->ai):List SV->Heap->Prop
 |E:WH sz ty o [] ⟨1,[(0,o .af)]⟩
 |L {g:Nat} {x:SV} {xs:List SV}:WH sz ty o (x::xs) ⟨2,[(1,.vec g sz (x::xs) ⟨true,some ty⟩),(0,o (.sl 1 g sz 0 (xs.length+1) none))]⟩
def WE(sz:Nat)(ty:TypeId)(o':SV->ai)(xs ys:List SV)(h':Heap):Prop:=match xs,ys with
 | [],[]=>h'.obj 0=some (o' .af)
 | [],_::_=> ∃j g,0<j/\h'.obj 0=some (o' (.sl j g sz 0 ys.length none))/\h'.obj j=some (.vec g sz ys ⟨true,some ty⟩)
 |_::_,_=> ∃g,h'.obj 0=some (o' (.sl 1 g sz 0 ys.length none))/\h'.obj 1=some (.vec g sz ys ⟨true,some ty⟩)
theorem WE.E{j g n:Nat}{h':Heap}(hne:ys≠[])(hj:0<j)(hn:n=ys.length)(h0:h'.obj 0=some (o' (.sl j g sz 0 n none)))(h1:h'.obj j=some (.vec g sz ys ⟨true,some ty⟩)):WE sz ty o' [] ys h':=by
 subst hn;cases ys with
 |nil=>exact absurd rfl hne
 |cons y yr=>exact⟨j,g,hj,h0,h1⟩
theorem WE.L{x:SV}{g n:Nat}{h':Heap}(hn:n=ys.length)(h0:h'.obj 0=some (o' (.sl 1 g sz 0 n none)))(h1:h'.obj 1=some (.vec g sz ys ⟨true,some ty⟩)):WE sz ty o' (x::xs) ys h':=by
 subst hn;exact⟨g,h0,h1⟩
structure ry(P:Program)(f:FuncId)(us:List SV)(sz:Nat)(ty:TypeId)(o o':SV->ai)(xs ys:List SV):Prop where
 args: ∀a∈us,aL a
 ok:p9 o
 ok':p9 o'
 lit: ∀v∈xs,aL v
 lit': ∀v∈ys,aL v
 run: ∀h,WH sz ty o xs h->aC P f (.ref 0 0 0 0::us) h fun r h'=>r= .ret (.bn [])/\WE sz ty o' xs ys h'
theorem zX{n:Nat}{l:List (Nat×ai)}{args:List SV}{R:bu->Heap->Prop}(h:(∀ j p,ak l j=some p->j<n)->aC P f args ⟨n,l⟩ R):aC P f args ⟨n,l⟩ R:=
 ⟨fun c w xs hr hs hv=>(h fun j p hj=>hr.lt j p hj).calls c w xs hr hs hv⟩
theorem ry.V0(hp:ry P f us sz ty o o' xs ys){i j g n k:Nat}{l:List (Nat×ai)}{R:bu->Heap->Prop}(hi:ak l i=some (o (.sl j g sz 0 k none)))(hj:ak l j=some (.vec g sz xs ⟨true,some ty⟩))(hk:k=xs.length)(hx:xs≠[])(hij:i≠j)
  (hR: ∀g',R (.ret (.bn [])) ⟨n,bt (bt l i (o' (.sl j g' sz 0 ys.length none))) j (.vec g' sz ys ⟨true,some ty⟩)⟩):aC P f (.ref i 0 0 0::us) ⟨n,l⟩ R:=by
 subst hk;refine zX fun hlt=> ?_
 obtain⟨x,xr,rfl⟩: ∃x xr,xs=x::xr:=by cases xs with|nil=>exact absurd rfl hx|cons x xr=>exact⟨x,xr,rfl⟩
 have hil:=hlt i _ hi;have hjl:=hlt j _ hj
 refine aC.frame (N:=fun k q=>(k=0/\q=i)\/(k=1/\q=j)) (m:=2) (L:=[(1,.vec g sz (x::xr) ⟨true,some ty⟩),(0,o (.sl 1 g sz 0 (xr.length+1) none))]) (args:= .ref 0 0 0 0::us)
  (fun k q hk=> ?_) (fun k q hk=> ?_) (fun k k' q h h'=>by omega) (fun k q q' h h'=>by omega) (.cons (.ref (.inl ⟨rfl,rfl⟩)) (kG hp.args)) ((hp.run _ .L).mono fun r h' ⟨hr,hw⟩=> ?_)
 ·unfold ak at hk
  split at hk
  ·rename_i h;subst h;cases hk
   exact⟨by decide,j,_,.inr ⟨rfl,rfl⟩,hj,qy hp.lit⟩
  ·unfold ak at hk
   split at hk
   ·rename_i h;subst h;cases hk
    exact⟨by decide,i,_,.inl ⟨rfl,rfl⟩,hi,hp.ok.zx (.sl (.inr ⟨rfl,rfl⟩))⟩
   ·cases hk
 ·rcases hk with⟨rfl,rfl⟩|⟨rfl,rfl⟩
  ·exact⟨by decide,_,rfl⟩
  ·exact⟨by decide,_,rfl⟩
 ·subst hr
  obtain⟨g',h0,h1⟩:=hw;refine⟨fun k q=>(k=0/\q=i)\/(k=1/\q=j),.ret (.bn []),⟨n,bt (bt l i (o' (.sl j g' sz 0 ys.length none))) j (.vec g' sz ys ⟨true,some ty⟩)⟩,⟨fun k q h=> .inl ⟨by omega,h⟩,fun k k' q h h'=>by omega,fun k q q' h h'=>by omega,fun k q h _=>(by show q<n;rcases h with⟨_,rfl⟩|⟨_,rfl⟩<;>assumption),Nat.le_refl _,fun q p hq=> ?_,.ret (.lit (.bn (by simp)))⟩,hR g'⟩;have hq:ak (bt (bt l i (o' (.sl j g' sz 0 ys.length none))) j (.vec g' sz ys ⟨true,some ty⟩)) q=some p:=hq;by_cases h:q=j
  ·subst h
   rw[aV (o:= .vec g sz (x::xr) ⟨true,some ty⟩) (by rw[aF (by omega)];exact hj)]at hq;cases hq
   exact⟨hjl,.inl ⟨1,_,.inr ⟨rfl,rfl⟩,h1,qy hp.lit'⟩⟩
  ·rw[aF h]at hq
   by_cases h2:q=i
   ·subst h2
    rw[aV hi]at hq;cases hq
    exact⟨hil,.inl ⟨0,_,.inl ⟨rfl,rfl⟩,h0,hp.ok'.zx (.sl (.inr ⟨rfl,rfl⟩))⟩⟩
   ·rw[aF h2]at hq
    exact⟨hlt q _ hq,.inr ⟨hq,fun k hk=>by omega⟩⟩
theorem ry.V1(hp:ry P f us sz ty o o' [] []){i n:Nat}{l:List (Nat×ai)}{R:bu->Heap->Prop}(hi:ak l i=some (o .af))
  (hR:R (.ret (.bn [])) ⟨n,bt l i (o' .af)⟩):aC P f (.ref i 0 0 0::us) ⟨n,l⟩ R:=by
 refine zX fun hlt=> ?_
 have hil:=hlt i _ hi
 refine aC.frame (N:=fun k q=>k=0/\q=i) (m:=1) (L:=[(0,o .af)]) (args:= .ref 0 0 0 0::us)
  (fun k q hk=> ?_) (fun k q hk=> ?_) (fun k k' q h h'=>by omega) (fun k q q' h h'=>by omega) (.cons (.ref ⟨rfl,rfl⟩) (kG hp.args)) ((hp.run _ .E).mono fun r h' ⟨hr,hw⟩=> ?_)
 ·unfold ak at hk
  split at hk
  ·rename_i h;subst h;cases hk
   exact⟨by decide,i,_,⟨rfl,rfl⟩,hi,hp.ok.zx (.lit .af)⟩
  ·cases hk
 ·obtain⟨rfl,rfl⟩:=hk
  exact⟨by decide,_,rfl⟩
 ·subst hr
  have h0:h'.obj 0=some (o' .af):=hw;refine⟨fun k q=>k=0/\q=i,.ret (.bn []),⟨n,bt l i (o' .af)⟩,⟨fun k q h=> .inl ⟨by omega,h⟩,fun k k' q h h'=>by omega,fun k q q' h h'=>by omega,fun k q h _=>(by show q<n;rw[h.2];exact hil),Nat.le_refl _,fun q p hq=> ?_,.ret (.lit (.bn (by simp)))⟩,hR⟩;have hq:ak (bt l i (o' .af)) q=some p:=hq;by_cases h2:q=i
  ·subst h2
   rw[aV hi]at hq;cases hq
   exact⟨hil,.inl ⟨0,_,⟨rfl,rfl⟩,h0,hp.ok'.zx (.lit .af)⟩⟩
  ·rw[aF h2]at hq
   exact⟨hlt q _ hq,.inr ⟨hq,fun k hk=>by omega⟩⟩
theorem ry.V2(hp:ry P f us sz ty o o' [] ys){i n:Nat}{l:List (Nat×ai)}{R:bu->Heap->Prop}(hy:ys≠[])(hi:ak l i=some (o .af))
  (hR: ∀g',R (.ret (.bn [])) ⟨n+1,(n,.vec g' sz ys ⟨true,some ty⟩)::bt l i (o' (.sl n g' sz 0 ys.length none))⟩):aC P f (.ref i 0 0 0::us) ⟨n,l⟩ R:=by
 refine zX fun hlt=> ?_
 obtain⟨y,yr,rfl⟩: ∃x xr,ys=x::xr:=by cases ys with|nil=>exact absurd rfl hy|cons x xr=>exact⟨x,xr,rfl⟩
 have hil:=hlt i _ hi
 refine aC.frame (N:=fun k q=>k=0/\q=i) (m:=1) (L:=[(0,o .af)]) (args:= .ref 0 0 0 0::us)
  (fun k q hk=> ?_) (fun k q hk=> ?_) (fun k k' q h h'=>by omega) (fun k q q' h h'=>by omega) (.cons (.ref ⟨rfl,rfl⟩) (kG hp.args)) ((hp.run _ .E).mono fun r h' ⟨hr,hw⟩=> ?_)
 ·unfold ak at hk
  split at hk
  ·rename_i h;subst h;cases hk
   exact⟨by decide,i,_,⟨rfl,rfl⟩,hi,hp.ok.zx (.lit .af)⟩
  ·cases hk
 ·obtain⟨rfl,rfl⟩:=hk
  exact⟨by decide,_,rfl⟩
 ·subst hr
  obtain⟨j,g',hj0,h0,h1⟩:=hw;refine⟨fun k q=>(k=0/\q=i)\/(k=j/\q=n),.ret (.bn []),⟨n+1,(n,.vec g' sz (y::yr) ⟨true,some ty⟩)::bt l i (o' (.sl n g' sz 0 (y::yr).length none))⟩,⟨fun k q h=> ?_,fun k k' q h h'=>by omega,fun k q q' h h'=>by omega,fun k q h _=>(by show q<n+1;omega),Nat.le_succ _,fun q p hq=> ?_,.ret (.lit (.bn (by simp)))⟩,hR g'⟩
  ·rcases h with⟨rfl,rfl⟩|⟨rfl,rfl⟩
   ·exact .inl ⟨by decide,rfl,rfl⟩
   ·exact .inr ⟨hj0,Nat.le_refl _⟩
  have hq:ak ((n,.vec g' sz (y::yr) ⟨true,some ty⟩)::bt l i (o' (.sl n g' sz 0 (y::yr).length none))) q=some p:=hq;by_cases YH:q=n
  ·subst YH
   rw[dD]at hq;cases hq
   exact⟨Nat.lt_succ_self _,.inl ⟨j,_,.inr ⟨rfl,rfl⟩,h1,qy hp.lit'⟩⟩
  ·rw[aU (by omega)]at hq
   by_cases h2:q=i
   ·subst h2
    rw[aV hi]at hq;cases hq
    exact⟨Nat.lt_succ_of_lt hil,.inl ⟨0,_,.inl ⟨rfl,rfl⟩,h0,hp.ok'.zx (.sl (.inr ⟨rfl,rfl⟩))⟩⟩
   ·rw[aF h2]at hq
    exact⟨Nat.lt_succ_of_lt (hlt q _ hq),.inr ⟨hq,fun k hk=>by omega⟩⟩
end
end
theorem aC.made{P:Program}{f:FuncId}{us:List SV}{o:ai}{n:Nat}{l:List (Nat×ai)}{R:bu->Heap->Prop}(v:Nat->SV)(hv: ∀(N:Nat->Nat->Prop) j k,N j k->iQ N (v j) (v k))(hl: ∀a∈us,aL a)(ho: ∀N,k8 N o o)
  (hp:aC P f us ⟨0,[]⟩ fun r h'=> ∃j,r= .ret (v j)/\h'.obj j=some o)(hR:R (.ret (v n)) ⟨n+1,(n,o)::l⟩):aC P f us ⟨n,l⟩ R:=by
 refine⟨fun c w xs hr hs Cr=> ?_⟩;have hlt: ∀j p,ak l j=some p->j<n:=fun j p hj=>hr.lt j p hj
 refine(aC.frame (N:=fun _ _=>False) (m:=0) (L:=[]) (l:=l) (n:=n) (args:=us) (R:=R) (fun k q hk=>by cases hk) (fun k q hk=>hk.elim) (fun k k' q h=>h.elim) (fun k q q' h=>h.elim) (kG hl) (hp.mono fun r h' ⟨j,h1,h2⟩=> ?_)).calls c w xs hr hs Cr;subst h1;refine⟨fun k q=>k=j/\q=n,.ret (v n),⟨n+1,(n,o)::l⟩,⟨fun k q h=> .inr ⟨Nat.zero_le _,h.2▸Nat.le_refl _⟩,fun k k' q h h'=>h.1.trans h'.1.symm,fun k q q' h h'=>h.2.trans h'.2.symm,fun k q h _=>(by show q<n+1;omega),Nat.le_succ _,fun q p hq=> ?_,.ret (hv _ _ _ ⟨rfl,rfl⟩)⟩,hR⟩;have hq:ak ((n,o)::l) q=some p:=hq;by_cases h:q=n
 ·subst h
  rw[dD]at hq;cases hq
  exact⟨Nat.lt_succ_self _,.inl ⟨j,_,⟨rfl,rfl⟩,h2,ho _⟩⟩
 ·rw[aU (by omega)]at hq
  exact⟨Nat.lt_succ_of_lt (hlt q _ hq),.inr ⟨hq,fun k hk=>hk⟩⟩
theorem uu: ∀ {l:List (Nat×ai)} {i:Nat} {o:ai},(i,o)∈l-> ∃p,ak l i=some p
 |(j,q)::r,i,o,h=>by
  by_cases hj:j=i
  ·subst hj;exact⟨q,dD⟩
  ·rw[aU hj]
   rcases List.mem_cons.1 h with h|h
   ·cases h;exact absurd rfl hj
   ·exact uu h
theorem FO{S:Nat->Bool}: ∀ {l:List (Nat×ai)},(∀ i o,(i,o)∈l->S i=false)->cE S l=l
 | [],_=>rfl
 |(i,o)::r,h=>by
  unfold cE;rw[h i o (by simp)];simp only[cond_false];rw[FO fun j p hj=>h j p (List.mem_cons_of_mem _ hj)]
theorem l8: ∀l:List (Nat×ai),cE (fun _=>false) l=l
 | []=>rfl
 |(i,o)::r=>congrArg ((i,o):: ·) (l8 r)
theorem tg{n M:Nat}{o:ai}{l:List (Nat×ai)}(h: ∀j p,ak l j=some p->j<n)(hM:n<M): ∀j p,ak ((n,o)::l) j=some p->j<M:=fun j p hj=>by
 by_cases hn:n=j
 ·omega
 ·rw[aU hn]at hj
  have:=h j p hj;omega
theorem OG{M:Nat}{l:List (Nat×ai)}(h: ∀j p,ak l j=some p->j<M):cE (fun j=>Nat.beq j M) l=l:=FO fun i p hi=>by
 obtain⟨q,hq⟩:=uu hi;have:=h i q hq;cases hb:Nat.beq i M with
 |false=>rfl
 |true=>exact absurd (Nat.eq_of_beq_eq_true hb) (by omega)
theorem OH{i M:Nat}{a b:ai}{l:List (Nat×ai)}(hi:Nat.beq i M=false)(h: ∀j p,ak l j=some p->j<M):cE (fun j=>Nat.beq j M) ((i,a)::(M,b)::l)=(i,a)::l:=by
 unfold cE;rw[hi];unfold cE;rw[show Nat.beq M M=true from Nat.beq_refl M];show(i,a)::cE (fun j=>Nat.beq j M) l=_;rw[OG h]
theorem Hi{A:Heap}{k M:Nat}{o:ai}{l:List (Nat×ai)}(h: ∀j p,ak l j=some p->j<M):k9 A (cE (fun j=>Nat.beq j M) (Heap.mk k ((M,o)::l)).l) l:=by
 have e:cE (fun j=>Nat.beq j M) ((M,o)::l)=l:=by
  unfold cE;rw[show Nat.beq M M=true from Nat.beq_refl M];refine FO fun i p hi=> ?_
  obtain⟨q,hq⟩:=uu hi;have:=h i q hq;cases hb:Nat.beq i M with
  |false=>rfl
  |true=>exact absurd (Nat.eq_of_beq_eq_true hb) (by omega)
 show k9 A (cE (fun j=>Nat.beq j M) ((M,o)::l)) l;rw[e];exact .refl
end Ab
namespace Go.Proofs.YtegmnocpkgpgeaaGreatDoor
open Ab Go.RowKit
set_option maxRecDepth 100000
set_option maxHeartbeats 4000000
attribute [local irreducible] aS bH
@[reducible] def jm (v:SV):ai:= .vec 0 1 [.agg [v]] ⟨false,some 25⟩
@[reducible] def Bs (g:Nat) (es:List SV):ai:= .vec g 5 es ⟨true,some 39⟩
@[reducible] def Jh (g:Nat) (es:List SV):ai:= .vec g 4 es ⟨true,some 68⟩
def ni:Nat->List (Tb×SV)->List SV
 |_,[]=>[]
 |k,(t,w)::r=>FN k t w::ni (k+1) r
inductive Bt(l:List (Nat×ai)):List Ix->SV->Prop
 |nil:Bt l [] .af
 |sl {xs:List Ix} {b g:Nat} (h0:xs≠[]) (h:ak l b=some (Jh g (j4 1 xs))):Bt l xs (.sl b g 4 0 xs.length none)
def kS(p q:Tb×SV):Prop:= ∀b g n g' n',p.2= .sl b g 4 0 n none->q.2≠ .sl b g' 4 0 n' none
inductive gU(l:List (Nat×ai)):List (Tb×SV)->SV->Prop
 |nil:gU l [] .af
 |sl {ps:List (Tb×SV)} {b g n:Nat} (h0:ps≠[]) (hn:n=ps.length) (h:ak l b=some (Bs g (ni 1 ps))) (hx: ∀p∈ps,Bt l p.1.idx p.2) (ha:ps.Pairwise kS):gU l ps (.sl b g 5 0 n none)
theorem od: ∀ {k:Nat} {ps:List (Tb×SV)},(ni k ps).length=ps.length
 |_,[]=>rfl
 |k,(t,w)::r=>congrArg (· +1) od
theorem vN: ∀ {k i:Nat} {ps:List (Tb×SV)} (h:i<ps.length),(ni k ps)[i]? =some (FN (k+i) ps[i].1 ps[i].2)
 |k,0,(t,w)::r,h=>rfl
 |k,i+1,(t,w)::r,h=>by
  have:=vN (k:=k+1) (i:=i) (ps:=r) (by simpa using h);rw[show k+(i+1)=k+1+i by omega];exact this
theorem oQ: ∀ {k i:Nat} {ts:List Tb} (h:i<ts.length),(oP k ts)[i]? =some (BB (k+i) ts[i])
 |k,0,t::r,h=>rfl
 |k,i+1,t::r,h=>by
  have:=oQ (k:=k+1) (i:=i) (ts:=r) (by simpa using h);rw[show k+(i+1)=k+1+i by omega];exact this
theorem jk: ∀ {k:Nat} {ts:List Tb},(oP k ts).length=ts.length
 |_,[]=>rfl
 |k,t::r=>congrArg (· +1) jk
theorem jl: ∀ {k:Nat} {xs:List Ix},(j4 k xs).length=xs.length
 |_,[]=>rfl
 |k,t::r=>congrArg (· +1) jl
theorem DP: ∀ {k:Nat} {xs:List Ix},∀v∈j4 k xs,aL v
 |_,[],v,h=>by cases h
 |k,x::r,v,h=>by
  rcases List.mem_cons.1 h with rfl|h
  ·exact .agg (by simp[aL.str,aL.int,aL.aW,aL.bool])
  ·exact DP v h
theorem Bt.mW{n:Nat}{l:List (Nat×ai)}{xs:List Ix}{w:SV}(h:Bt l xs w):bA ⟨n,l⟩ w (rowOf 4 (j4 1 xs)):=by
 cases h with
 |nil=>exact .nil
 |sl h0 h=>exact dH h jl.symm DP
theorem Mc{n k:Nat}{l:List (Nat×ai)}{t:Tb}{w:SV}(h:Bt l t.idx w):bA ⟨n,l⟩ (FN k t w) (BB k t):=
 .agg rfl fun i v v' a b=>by
  match i with
  |0=>cases a;cases b;exact .lit (.str _)
  |1=>cases a;cases b;exact .lit (.int _ _)
  |2=>cases a;cases b;exact .lit (.aW _ _ _)
  |3=>cases a;cases b;exact .lit (.aW _ _ _)
  |4=>cases a;cases b;exact h.mW
  |i+5=>cases a
theorem gU.mW{n:Nat}{l:List (Nat×ai)}{ps:List (Tb×SV)}{v:SV}(h:gU l ps v):bA ⟨n,l⟩ (.agg [v]) (qf (ps.map (·.1))):=by
 refine .agg rfl fun i u u' a b=> ?_
 match i with
 |i+1=>cases a
 |0=>
  cases a;cases b
  cases h with
  |nil=>exact .nil
  |sl h0 hn ho hx ha=>
   refine sX ho (by rw[hn,od]) (by rw[od,jk,List.length_map]) fun j v hv=> ?_
   have hj:j<ps.length:=by
    rcases Nat.lt_or_ge j ps.length with h|h
    ·exact h
    ·rw[List.getElem?_eq_none (by rw[od];exact h)]at hv;cases hv
   rw[vN hj]at hv;cases hv
   have h2:=oQ (k:=1) (i:=j) (ts:=ps.map (·.1)) (by rw[List.length_map];exact hj);rw[List.getD,h2];simp only[List.getElem_map,Option.getD_some];exact Mc (hx _ (List.getElem_mem hj))
end Go.Proofs.YtegmnocpkgpgeaaGreatDoor
