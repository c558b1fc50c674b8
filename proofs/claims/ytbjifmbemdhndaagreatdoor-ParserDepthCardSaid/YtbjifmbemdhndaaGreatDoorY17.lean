/- Parts of the proof of PParserDepth, one behind the other, with short names. -/
import Derived.Test.YtbjifmbemdhndaaGreatDoorY16
import Derived.LoopN
set_option linter.unusedVariables false
set_option linter.unusedSimpArgs false
namespace Ab
open Go
def SV.lt:Nat->Nat->SV->Bool
 |0,_,_=>false
 |f+1,n,v=>match v with
  | .ref i _ _ _=>Nat.blt i n
  | .sl i _ _ _ _ _=>Nat.blt i n
  | .cJ i _=>Nat.blt i n
  | .agg l| .aN l=>l.all (SV.lt f n)
  | .func _ a b=>a.all (SV.lt f n)&&b.all (SV.lt f n)
  | .iface _ v=>SV.lt f n v
  |_=>true
def wu(n:Nat):aA->Prop
 | .vec _ _ elems _=> ∀v∈elems,SV.lt 8 n v=true
 | .iter _ _=>True
 | .map _ _=>True
 | .bU m _ _ _=>SV.lt 8 n m=true
 | .js .. =>True
noncomputable section
def wv:List Nat->Env->(Env->Prop)->Prop
 | [],_,k=>k []
 |t::ts,e,k=>Env.sO e t fun v=>wv ts e fun e'=>k ((t,v)::e')
def bx(n:Nat)(l:List SV)(k:Prop):Prop:= @List.rec SV (fun _=>Prop) k (fun v _ ih=>cQ (SV.lt 8 n v) ih) l
def BS(n:Nat)(o:aA)(k:Prop):Prop:=match o with
 | .vec _ _ elems _=>bx n elems k
 | .iter _ _=>k
 | .map _ _=>k
 | .bU m _ _ _=>cQ (SV.lt 8 n m) k
 | .js .. =>k
def DW(n:Nat)(l:List (Nat×aA)):(List (Nat×aA)->Prop)->Prop:=
 @List.rec (Nat×aA) (fun _=>(List (Nat×aA)->Prop)->Prop) (fun k=>k [])
  (fun x _ ih k=>match x with
   |(i,o)=> @Bool.rec (fun _=>Prop) (ih k) (BS n o (ih fun r'=>k ((i,o)::r'))) (Nat.blt i n)) l
def Rz(n:Nat):Env->Bool
 | []=>true
 |(_,v)::r=>SV.lt 8 n v&&Rz n r
def IN(ks:List Nat)(n:Nat)(e:Env)(h:Heap)(k:Env->Heap->Prop):Prop:=wv ks e fun e'=>match h with
 |⟨m,l⟩=> @Bool.rec (fun _=>Prop) (cQ (Rz n e'&&Nat.ble n m) (DW n l fun l'=>k e' ⟨n,l'⟩)) (k e' ⟨m,l⟩) (Nat.beq m n)
def zO(ks:List Nat)(n:Nat)(Q:ck->Env->Heap->Prop)(I:Env->Heap->Prop):ck->Env->Heap->Prop
 | .normal,e,h=>IN ks n e h I
 |x,e,h=>Q x e h
def Env.keys:Env->List Nat
 | []=>[]
 |(t,_)::r=>t::Env.keys r
end
theorem VR.cut{c:Cx}{A A':Heap}{w:World}(hsub: ∀i o,A'.obj i=some o->A.obj i=some o): ∀(f:Nat) {v:SV} {x:Value},SV.lt f A'.dA v=true->VR c A w v x->VR c A' w v x:=by
 intro f
 induction f with
 |zero=>intro v x hl;cases hl
 |succ f ih=>
  intro v x hl hv;have L4: ∀i,Nat.blt i A'.dA=true->i<A'.dA:=fun i hi=>Nat.lt_of_succ_le (by simpa[Nat.blt]using hi)
  cases hv with
  |pure h=>exact .pure h
  |ref i g idx sub x hx hi hg h=>exact .ref _ _ _ _ _ hx (L4 i hl) (fun o ho=>hg o (hsub i o ho)) fun o ho=>h o (hsub i o ho)
  |sl i g sz off len cap x hx hi hg h=>exact .sl _ _ _ _ _ _ _ hx (L4 i hl) (fun o ho=>hg o (hsub i o ho)) fun o ho=>h o (hsub i o ho)
  |cJ i g x hx hi hg h=>exact .cJ _ _ _ hx (L4 i hl) (fun o ho=>hg o (hsub i o ho)) fun o ho=>h o (hsub i o ho)
  |iface t v x h=>exact .iface _ _ _ (ih hl h)
  |agg l cs L5 h=>exact .agg _ _ L5 fun i v y h1 h2=>ih (List.all_eq_true.1 hl v (List.mem_of_getElem? h1)) (h i v y h1 h2)
  |aN l cs L5 h=>exact .aN _ _ L5 fun i v y h1 h2=>ih (List.all_eq_true.1 hl v (List.mem_of_getElem? h1)) (h i v y h1 h2)
  |func fn a b a' b' ha hb h h'=>
   simp only[SV.lt,Bool.and_eq_true]at hl;exact .func _ _ _ _ _ ha hb (fun i v y h1 h2=>ih (List.all_eq_true.1 hl.1 v (List.mem_of_getElem? h1)) (h i v y h1 h2)) fun i v y h1 h2=>ih (List.all_eq_true.1 hl.2 v (List.mem_of_getElem? h1)) (h' i v y h1 h2)
theorem pG{n:Nat}{k:Prop}: ∀ {l:List SV},bx n l k<->(∀ v∈l,SV.lt 8 n v=true)/\k
 | []=>by simp[bx]
 |v::r=>by
  have e:bx n (v::r) k=cQ (SV.lt 8 n v) (bx n r k):=rfl;rw[e,ah,pG];simp[and_assoc]
theorem bh{n:Nat}{k:Prop}{l:List SV}(h: ∀v∈l,SV.lt 8 n v=true)(hk:k):bx n l k:=pG.2 ⟨h,hk⟩
theorem BU{n:Nat}{o:aA}{k:Prop}(h:BS n o k):wu n o/\k:=by
 cases o with
 |vec g sz elems sk=>exact pG.1 h
 |iter s pos=>exact⟨trivial,h⟩
 |map es cl=>exact⟨trivial,h⟩
 |bU m since seen stepped=>exact ah.1 h
 |js g ty xs=>exact⟨trivial,h⟩
theorem rI{n:Nat}: ∀ {l:List (Nat×aA)} {k:List (Nat×aA)->Prop},DW n l k-> ∃l',k l'/\(∀ i o,aG l' i=some o->aG l i=some o/\i<n/\wu n o)/\True
 | [],k,hp=>⟨[],hp,(fun i o ho=>by cases ho),trivial⟩
 |(i,o)::r,k,hp=>by
  replace hp: @Bool.rec (fun _=>Prop) (DW n r k) (BS n o (DW n r fun r'=>k ((i,o)::r'))) (Nat.blt i n):=hp
  rcases xB hp with⟨hb,hp⟩|⟨hb,hp⟩
  ·obtain⟨ho,hp⟩:=BU hp
   obtain⟨l',hk,hl,_⟩:=rI hp;refine⟨_,hk,fun j oj hj=> ?_,trivial⟩;unfold aG at hj ⊢;by_cases hij:i=j
   ·rw[if_pos hij]at hj ⊢
    cases hj
    exact⟨rfl,by rw[<- hij];exact Nat.lt_of_succ_le (by simpa[Nat.blt]using hb),ho⟩
   ·rw[if_neg hij]at hj ⊢
    exact hl j oj hj
  ·obtain⟨l',hk,hl,_⟩:=rI hp
   refine⟨l',hk,fun j oj hj=> ?_,trivial⟩;obtain⟨h1,h2,h3⟩:=hl j oj hj;refine⟨?_,h2,h3⟩;unfold aG;rw[if_neg (fun hij=> ?_)]
   ·exact h1
   ·subst hij
    have:Nat.blt i n=true:=by
     have:i+1<=n:=h2;simpa[Nat.blt]using this
    rw[this]at hb;cases hb
theorem rJ: ∀ {ks:List Nat} {e:Env} {k:Env->Prop},wv ks e k-> ∃e',k e'/\ ∀t,Env.get e' t= .undef\/Env.get e' t=Env.get e t
 | [],e,k,hp=>⟨[],hp,fun t=> .inl rfl⟩
 |s::ts,e,k,hp=>by
  simp only[wv,gJ]at hp;obtain⟨e',hk,he⟩:=rJ hp;refine⟨_,hk,fun t=> ?_⟩
  conv=>lhs;lhs;unfold Env.get
  conv=>rhs;lhs;unfold Env.get
  rcases bE s t with⟨h,h'⟩|⟨h,h'⟩<;>rw[h]
  ·subst h';exact .inr rfl
  ·exact he t
theorem DX{n:Nat}: ∀ {e:Env},Rz n e=true-> ∀t,SV.lt 8 n (Env.get e t)=true
 | [],_,t=>rfl
 |(s,v)::r,hl,t=>by
  simp only[Rz,Bool.and_eq_true]at hl;unfold Env.get;rcases bE s t with⟨h,h'⟩|⟨h,h'⟩<;>rw[h]
  ·exact hl.1
  ·exact DX hl.2 t
theorem qv{ks:List Nat}{n:Nat}{e:Env}{h:Heap}{k:Env->Heap->Prop}(hp:IN ks n e h k){c:Cx}{w:World}{tmps:Array Value}(hr:bP c h w)(he:ER c h w e tmps){c0:Cx}{h0:Heap}{w0:World}(hx:Ext c0 h0 w0 c h w)(hn:h0.dA<=n):
  ∃e' h',k e' h'/\bP c h' w/\ER c h' w e' tmps/\Ext c0 h0 w0 c h' w:=by
 unfold IN at hp;obtain⟨e',hp,hee⟩:=rJ hp;obtain⟨m,l⟩:=h
 have he':ER c ⟨m,l⟩ w e' tmps:=fun t=>by
  rcases hee t with h|h
  ·rw[h];exact .undef
  ·rw[h];exact he t
 rcases xB hp with⟨hb,hp⟩|⟨hb,hp⟩
 ·exact⟨e',_,hp,hr,he',hx⟩
 ·replace hp:=ah.1 hp
  obtain⟨hlt,hp⟩:=hp;simp only[Bool.and_eq_true]at hlt;obtain⟨l',hk,hl,_⟩:=rI hp;have hsub: ∀i o,(Heap.mk n l').obj i=some o->(Heap.mk m l).obj i=some o:=fun i o ho=>(hl i o ho).1
  refine⟨e',_,hk,⟨fun i o ho=>(hl i o ho).2.1,fun i o ho=> ?_,fun i j o p ho hp' heq=>hr.inj i j o p (hsub i o ho) (hsub j p hp') heq,fun i o ho=>hr.apart i o (hsub i o ho),hr.im,hr.cV⟩,fun t=>(he' t).cut hsub 8 (DX hlt.1 t),?_⟩
  ·have gS:=hr.obj i o (hsub i o ho)
   have Gx:=(hl i o ho).2.2;cases gS with
   |vec g sz elems eS C ty fz hw hle heq hty hc hf hcell=>
    refine .vec g sz elems eS C ty fz hw hle heq hty hc hf fun i j e v x h1 h2 h3=> ?_
    have hv:=hcell i j e v x h1 h2 h3;have Gy:=Gx e (List.mem_of_getElem? h1);by_cases kV: ∃l,e= .agg l
    ·obtain⟨l,rfl⟩:=kV
     exact hv.cut hsub 7 (List.all_eq_true.1 Gy v (List.mem_of_getElem? h2))
    ·have h1:e.cells=[e]:=by cases e<;>first|rfl|exact absurd ⟨_,rfl⟩ kV
     rw[h1]at h2;cases j with
     |zero=>simp at h2;subst h2;exact hv.cut hsub 8 Gy
     |succ j=>simp at h2
   |iter s pos hw=>exact .iter s pos hw
   |map es cl hw hs=>exact .map es cl hw hs
   |bU m since seen stepped r hw hm=>exact .bU m since seen stepped r hw (hm.cut hsub 8 Gx)
   |js g ty xs C fz hw hle hc=>exact .js g ty xs C fz hw hle hc
  ·refine⟨hx.os,hx.tape,hx.output,hx.size,hx.frame,hx.shape,hx.im,hx.im',hn,fun i o' hi ho'=>hx.old i o' hi (hsub i o' ho'),fun i o' ho'=>hx.new i o' (hsub i o' ho')⟩
theorem IP{P:Program}{b:bD}{Q:ck->Env->Heap->Prop}(J:Nat->Env->Heap->Prop)
  (hJ: ∀m e h,J m e h->Gw P b (zO (Env.keys e) h.dA Q (fun e' h'=> ∃m',m'<m/\J m' e' h')) e h){m:Nat}{e:Env}{h:Heap}(h0:J m e h):dx P b Q e h:=by
 refine⟨fun n code oG oH hc c w a hr he hn=> ?_⟩
 let I:Nat->Act->World->Prop:=fun m' a' w'=> ∃c' e' h',J m' e' h'/\bP c' h' w'/\Ext c h w c' h' w'/\ER c' h' w' e' a'.tmps/\a'.tmps.size=n/\a'.defers=a.defers
 have j5: ∀a' w',(∃ m',I m' a' w')-> ∃m',I m' a' w'/\ ∀qw,I qw a' w'->m'<=qw:=by
  intro a' w' ⟨m',hm'⟩;refine Classical.byContradiction fun hno=> ?_
  have: ∀k,∀qw,qw<=k-> ¬I qw a' w':=by
   intro k
   induction k with
   |zero=>intro qw hk hI;exact hno ⟨qw,hI,fun m3 _=>by omega⟩
   |succ k ih=>
    intro qw hk hI;refine hno ⟨qw,hI,fun m3 h3=> ?_⟩;rcases Nat.lt_or_ge k m3 with h|h
    ·omega
    ·exact absurd h3 (ih m3 h)
  exact this m' m' (Nat.le_refl _) hm'
 classical
 let μ:Act->World->Nat:=fun a' w'=>if hh: ∃m',I m' a' w' then Classical.choose (j5 a' w' hh)else 0
 have Kl: ∀a' w' m',I m' a' w'->I (μ a' w') a' w'/\μ a' w'<=m':=by
  intro a' w' m' hm';have hh: ∃m',I m' a' w':=⟨m',hm'⟩;have hs:=Classical.choose_spec (j5 a' w' hh);have e:μ a' w'=Classical.choose (j5 a' w' hh):=by simp only[μ];rw[dif_pos hh]
  rw[e];exact⟨hs.1,hs.2 m' hm'⟩
 refine wp_loop (fun a' w'=> ∃m',I m' a' w') μ ⟨m,c,e,h,h0,hr,.refl,he,hn,rfl⟩ fun a1 w1 hI=> ?_
 obtain⟨m1,Pv⟩:=hI;obtain⟨⟨c1,e1,h1,hj,qh,hx1,IF,Ga,hd1⟩,_⟩:=Kl a1 w1 m1 Pv;have hb:=lU (n:=n) oG code b _ e1 h1 oH hc (hJ _ e1 h1 hj) c1 w1 a1 qh IF Ga;refine wp_mono hb fun ex a2 w2 hpost=> ?_
 obtain⟨c2,h2,e2,xx,hq,iw,hx2,jq,hn2,nq,hex⟩:=hpost;cases ex with
 |normal=>
  cases xx<;>try exact hex.elim
  obtain⟨e3,h3,⟨m3,hlt,IQ⟩,L6,IS,hx3⟩:=qv (ks:=Env.keys e1) (k:=fun e' h'=> ∃m',m'<μ a1 w1/\J m' e' h') hq iw jq hx2 (Nat.le_refl _);simp only[Exit.then];have Km:I m3 a2 w2:=⟨c2,e3,h3,IQ,L6,hx1.trans hr hx3,IS,hn2,nq.trans hd1⟩;exact⟨⟨m3,Km⟩,Nat.lt_of_le_of_lt (Kl a2 w2 m3 Km).2 hlt⟩
 |exit i=>cases xx<;>first|exact hex.elim|exact⟨c2,h2,e2,_,hq,iw,hx1.trans hr hx2,jq,hn2,nq.trans hd1,hex⟩
 |goto l=>cases xx<;>exact hex.elim
 |ret=>cases xx<;>first|exact hex.elim|exact⟨c2,h2,e2,_,hq,iw,hx1.trans hr hx2,jq,hn2,nq.trans hd1,hex⟩
 |panic ch=>cases xx<;>first|exact hex.elim|exact⟨c2,h2,e2,_,hq,iw,hx1.trans hr hx2,jq,hn2,nq.trans hd1,hex⟩
 |outgrown=>cases xx<;>exact hex.elim
theorem Gz{P:Program}{b:bD}{Q:ck->Env->Heap->Prop}(J:Nat->Env->Heap->Prop)
  (hJ: ∀m e h,J m e h-> ∃N K,h.dA<=N/\(∀ e' h',K e' h'-> ∃m',m'<m/\J m' e' h')/\Gw P b (zO (Env.keys e) N Q K) e h){m:Nat}{e:Env}{h:Heap}(h0:J m e h):dx P b Q e h:=by
 refine⟨fun n code oG oH hc c w a hr he hn=> ?_⟩
 let I:Nat->Act->World->Prop:=fun m' a' w'=> ∃c' e' h',J m' e' h'/\bP c' h' w'/\Ext c h w c' h' w'/\ER c' h' w' e' a'.tmps/\a'.tmps.size=n/\a'.defers=a.defers
 have j5: ∀a' w',(∃ m',I m' a' w')-> ∃m',I m' a' w'/\ ∀qw,I qw a' w'->m'<=qw:=by
  intro a' w' ⟨m',hm'⟩;refine Classical.byContradiction fun hno=> ?_
  have: ∀k,∀qw,qw<=k-> ¬I qw a' w':=by
   intro k
   induction k with
   |zero=>intro qw hk hI;exact hno ⟨qw,hI,fun m3 _=>by omega⟩
   |succ k ih=>
    intro qw hk hI;refine hno ⟨qw,hI,fun m3 h3=> ?_⟩;rcases Nat.lt_or_ge k m3 with h|h
    ·omega
    ·exact absurd h3 (ih m3 h)
  exact this m' m' (Nat.le_refl _) hm'
 classical
 let μ:Act->World->Nat:=fun a' w'=>if hh: ∃m',I m' a' w' then Classical.choose (j5 a' w' hh)else 0
 have Kl: ∀a' w' m',I m' a' w'->I (μ a' w') a' w'/\μ a' w'<=m':=by
  intro a' w' m' hm';have hh: ∃m',I m' a' w':=⟨m',hm'⟩;have hs:=Classical.choose_spec (j5 a' w' hh);have e:μ a' w'=Classical.choose (j5 a' w' hh):=by simp only[μ];rw[dif_pos hh]
  rw[e];exact⟨hs.1,hs.2 m' hm'⟩
 refine wp_loop (fun a' w'=> ∃m',I m' a' w') μ ⟨m,c,e,h,h0,hr,.refl,he,hn,rfl⟩ fun a1 w1 hI=> ?_
 obtain⟨m1,Pv⟩:=hI;obtain⟨⟨c1,e1,h1,hj,qh,hx1,IF,Ga,hd1⟩,_⟩:=Kl a1 w1 m1 Pv;obtain⟨N,K,hN,hK,L7⟩:=hJ _ e1 h1 hj;have hb:=lU (n:=n) oG code b _ e1 h1 oH hc L7 c1 w1 a1 qh IF Ga;refine wp_mono hb fun ex a2 w2 hpost=> ?_
 obtain⟨c2,h2,e2,xx,hq,iw,hx2,jq,hn2,nq,hex⟩:=hpost;cases ex with
 |normal=>
  cases xx<;>try exact hex.elim
  obtain⟨e3,h3,Pw,L6,IS,hx3⟩:=qv (ks:=Env.keys e1) (k:=K) hq iw jq hx2 hN;obtain⟨m3,hlt,IQ⟩:=hK _ _ Pw;simp only[Exit.then];have Km:I m3 a2 w2:=⟨c2,e3,h3,IQ,L6,hx1.trans hr hx3,IS,hn2,nq.trans hd1⟩;exact⟨⟨m3,Km⟩,Nat.lt_of_le_of_lt (Kl a2 w2 m3 Km).2 hlt⟩
 |exit i=>cases xx<;>first|exact hex.elim|exact⟨c2,h2,e2,_,hq,iw,hx1.trans hr hx2,jq,hn2,nq.trans hd1,hex⟩
 |goto l=>cases xx<;>exact hex.elim
 |ret=>cases xx<;>first|exact hex.elim|exact⟨c2,h2,e2,_,hq,iw,hx1.trans hr hx2,jq,hn2,nq.trans hd1,hex⟩
 |panic ch=>cases xx<;>first|exact hex.elim|exact⟨c2,h2,e2,_,hq,iw,hx1.trans hr hx2,jq,hn2,nq.trans hd1,hex⟩
 |outgrown=>cases xx<;>exact hex.elim
theorem iP{P:Program}{b:bD}{Q:ck->Env->Heap->Prop}{σ:Type}(env:σ->Env)(hp:σ->Heap)(μ:σ->Nat)
  (step: ∀s,Gw P b (zO (Env.keys (env s)) (hp s).dA Q (fun e' h'=> ∃s',μ s'<μ s/\e'=env s'/\h'=hp s')) (env s) (hp s))(s:σ):dx P b Q (env s) (hp s):=
 IP (fun m e h=> ∃s,μ s=m/\e=env s/\h=hp s) (fun m e h ⟨s,hm,he,hh⟩=>by
  subst hm;subst he;subst hh
  have key:(fun e' h'=> ∃s',μ s'<μ s/\e'=env s'/\h'=hp s')=fun e' h'=> ∃m',m'<μ s/\ ∃s,μ s=m'/\e'=env s/\h'=hp s:=by
   funext e' h';apply propext
   constructor
   ·rintro⟨s',hlt,he,hh⟩;exact⟨_,hlt,s',rfl,he,hh⟩
   ·rintro⟨m',hlt,s',rfl,he,hh⟩;exact⟨s',hlt,he,hh⟩
  rw[<- key];exact step s) ⟨s,rfl,rfl,rfl⟩
structure dI(P:Program)(b:bD)(Q:ck->Env->Heap->Prop)(m:Nat)(e:Env)(h:Heap):Prop where
 run: ∀n code,P.follows .mixedOrders=true->eK b=true->erase b=bW P n code-> ∀(c:Cx) (w:World) (a:Act),bP c h w->ER c h w e a.tmps->a.tmps.size=n->Code.rounds P code (Post c h w Q n a.defers) m a w
theorem kH{P:Program}{code:Code}{Q Q':Exit->Act->World->Prop}(hq: ∀e a w,Q e a w->Q' e a w): ∀(m:Nat) {a:Act} {w:World},Code.rounds P code Q m a w->Code.rounds P code Q' m a w
 |0,_,_,h=>h.elim
 |m+1,_,_,h=>by
  rw[rounds_succ]at h ⊢;refine wp_mono h fun ex a' w' hx=> ?_
  cases ex<;>first|exact hq _ _ _ hx|exact kH hq m hx
theorem dI.succ{P:Program}{b:bD}{Q:ck->Env->Heap->Prop}{m:Nat}{e:Env}{h:Heap}(hp:Gw P b (zO (Env.keys e) h.dA Q (dI P b Q m)) e h):dI P b Q (m+1) e h:=by
 refine⟨fun n code oG oH hc c w a hr he hn=> ?_⟩;rw[rounds_succ];refine wp_mono (lU (n:=n) oG code b _ e h oH hc hp c w a hr he hn) fun ex a2 w2 hpost=> ?_
 obtain⟨c2,h2,e2,xx,hq,iw,hx2,jq,hn2,nq,hex⟩:=hpost;cases ex with
 |normal=>
  cases xx<;>try exact hex.elim
  obtain⟨e3,h3,IQ,L6,IS,hx3⟩:=qv (ks:=Env.keys e) (k:=dI P b Q m) hq iw jq hx2 (Nat.le_refl _);simp only[Exit.then];have:=IQ.run n code oG oH hc c2 w2 a2 L6 IS hn2;rw[nq]at this;exact kH (fun _ _ _ ru=>ru.of hr hx3) m this
 |exit i=>cases xx<;>first|exact hex.elim|exact⟨c2,h2,e2,_,hq,iw,hx2,jq,hn2,nq,hex⟩
 |goto l=>cases xx<;>exact hex.elim
 |ret=>cases xx<;>first|exact hex.elim|exact⟨c2,h2,e2,_,hq,iw,hx2,jq,hn2,nq,hex⟩
 |panic ch=>cases xx<;>first|exact hex.elim|exact⟨c2,h2,e2,_,hq,iw,hx2,jq,hn2,nq,hex⟩
 |outgrown=>cases xx<;>exact hex.elim
theorem cW{P:Program}{b:bD}{Q:ck->Env->Heap->Prop}(m:Nat){e:Env}{h:Heap}(hp:dI P b Q m e h):dx P b Q e h:=
 ⟨fun n code oG oH hc c w a hr he hn=>wp_loop_rounds m (hp.run n code oG oH hc c w a hr he hn)⟩
section
noncomputable section
def Px(ks:List Nat)(Q:ck->Env->Heap->Prop)(I:Env->Heap->Prop):ck->Env->Heap->Prop
 | .normal,e,h=>wv ks e fun e'=>I e' h
 |x,e,h=>Q x e h
end
structure HSub(A' A:Heap):Prop where
 dA:A'.dA=A.dA
 sub: ∀i o,A'.obj i=some o->A.obj i=some o
theorem HSub.refl(A:Heap):HSub A A:=⟨rfl,fun _ _ h=>h⟩
theorem VR.hsub{c:Cx}{A A':Heap}{w:World}(hs:HSub A' A){v:SV}{x:Value}(h:VR c A w v x):VR c A' w v x:=by
 induction h with
 |pure h=>exact .pure h
 |ref i g idx sub x hx hi hg h=>exact .ref _ _ _ _ _ hx (by rw[hs.dA];exact hi) (fun o ho=>hg o (hs.sub i o ho)) fun o ho=>h o (hs.sub i o ho)
 |sl i g sz off len cap x hx hi hg h=>exact .sl _ _ _ _ _ _ _ hx (by rw[hs.dA];exact hi) (fun o ho=>hg o (hs.sub i o ho)) fun o ho=>h o (hs.sub i o ho)
 |cJ i g x hx hi hg h=>exact .cJ _ _ _ hx (by rw[hs.dA];exact hi) (fun o ho=>hg o (hs.sub i o ho)) fun o ho=>h o (hs.sub i o ho)
 |iface t v x _ ih=>exact .iface _ _ _ ih
 |agg l cs hl _ ih=>exact .agg _ _ hl ih
 |aN l cs hl _ ih=>exact .aN _ _ hl ih
 |func fn a b a' b' ha hb _ _ ih rY=>exact .func _ _ _ _ _ ha hb ih rY
theorem bP.hsub{c:Cx}{A A':Heap}{w:World}(hs:HSub A' A)(hr:bP c A w):bP c A' w:=by
 refine⟨fun i o ho=>by rw[hs.dA];exact hr.lt i o (hs.sub i o ho),fun i o ho=> ?_,fun i j o p ho hp he=>hr.inj i j o p (hs.sub i o ho) (hs.sub j p hp) he,fun i o ho=>hr.apart i o (hs.sub i o ho),hr.im,hr.cV⟩;cases hr.obj i o (hs.sub i o ho)with
 |vec g sz elems sk C ty fz hw hle heq hty hc hf hcell=>exact .vec g sz elems sk C ty fz hw hle heq hty hc hf fun i j e v x a b d=>(hcell i j e v x a b d).hsub hs
 |iter s pos hw=>exact .iter s pos hw
 |map es cl hw hs'=>exact .map es cl hw hs'
 |bU m since seen stepped r hw hm=>exact .bU m since seen stepped r hw (hm.hsub hs)
 |js g ty xs C fz hw hle hc=>exact .js g ty xs C fz hw hle hc
theorem Ext.hsub{c:Cx}{A A':Heap}{w:World}(hs:HSub A' A):Ext c A w c A' w:=
 ⟨rfl,rfl,rfl,Nat.le_refl _,fun _ _ _=>rfl,fun _ _=>rfl,fun _ h=>h,fun _ h=> .inl h,Nat.le_of_eq hs.dA.symm,fun i o' _ h=>⟨o',hs.sub i o' h,Nat.le_refl _,rfl,fun _=>rfl⟩,fun i o' h=> .inr ⟨o',hs.sub i o' h,rfl⟩⟩
theorem GC{ks:List Nat}{e:Env}{h:Heap}{I:Env->Heap->Prop}(hp:wv ks e fun e'=>I e' h){c:Cx}{w:World}{tmps:Array Value}(he:ER c h w e tmps): ∃e',I e' h/\ER c h w e' tmps:=by
 obtain⟨e',h1,h2⟩:=rJ hp;refine⟨e',h1,fun t=> ?_⟩;rcases h2 t with h3|h3<;>rw[h3]
 ·exact .undef
 ·exact he t
theorem dI.full{P:Program}{b:bD}{Q:ck->Env->Heap->Prop}{m:Nat}{e:Env}{h:Heap}(hp:Gw P b (Px (Env.keys e) Q (dI P b Q m)) e h):dI P b Q (m+1) e h:=by
 refine⟨fun n code oG oH hc c w a hr he hn=> ?_⟩;rw[rounds_succ];refine wp_mono (lU (n:=n) oG code b _ e h oH hc hp c w a hr he hn) fun ex a2 w2 hpost=> ?_
 obtain⟨c2,h2,e2,xx,hq,iw,hx2,jq,hn2,nq,hex⟩:=hpost;cases ex with
 |normal=>
  cases xx<;>try exact hex.elim
  obtain⟨e3,IQ,IS⟩:=GC (I:=dI P b Q m) hq jq;simp only[Exit.then];have:=IQ.run n code oG oH hc c2 w2 a2 iw IS hn2;rw[nq]at this;exact kH (fun _ _ _ ru=>ru.of hr hx2) m this
 |exit i=>cases xx<;>first|exact hex.elim|exact⟨c2,h2,e2,_,hq,iw,hx2,jq,hn2,nq,hex⟩
 |goto l=>cases xx<;>exact hex.elim
 |ret=>cases xx<;>first|exact hex.elim|exact⟨c2,h2,e2,_,hq,iw,hx2,jq,hn2,nq,hex⟩
 |panic ch=>cases xx<;>first|exact hex.elim|exact⟨c2,h2,e2,_,hq,iw,hx2,jq,hn2,nq,hex⟩
 |outgrown=>cases xx<;>exact hex.elim
end
inductive RV where
 |tmp (t:Nat)
 |Kn (t:Nat)
 |dy (t n:Nat)
def nQ(P:Program):List ResultVar->Option (List RV)
 | []=>some []
 | .tmp t::r=>(nQ P r).map (.tmp t:: ·)
 | .cell t ty::r=>match ja P ty,P.info? ty with
   |some true,some i=>(nQ P r).map (.dy t i.size:: ·)
   |some false,_=>(nQ P r).map (.Kn t:: ·)
   |_,_=>none
noncomputable section
def rK:List RV->Env->Heap->(List SV->Prop)->Prop
 | [],_,_,k=>k []
 | .tmp t::r,e,h,k=>Env.sO e t fun v=>rK r e h fun vs=>k (v::vs)
 | .Kn t::r,e,h,k=>Env.sO e t fun p=>lH h p fun cs sub=>match iZ cs sub with
   |some v=>rK r e h fun vs=>k (v::vs)
   |none=>False
 | .dy t n::r,e,h,k=>Env.sO e t fun p=>lH h p fun cs sub=>nA cs sub fun cs=>takeN cs n fun l=>rK r e h fun vs=>k (.agg l::vs)
def uj(rs:List RV)(R:bV->Heap->Prop):ck->Env->Heap->Prop
 | .normal,e,h| .ret,e,h=>rK rs e h fun vs=>match vs with
   | [v]=>R (.ret v) h
   |vs=>R (.ret (.aN vs)) h
 | .panic v,_,h=>R (.cZ v) h
 | .exit _,_,_=>False
def eL:Nat->List SV->Env
 |_,[]=>[]
 |i,v::r=>(i,v)::eL (i+1) r
end
theorem qx{P:Program}{c:Cx}{h:Heap}{w:World}{e:Env}{tmps:Array Value}(hr:bP c h w)(he:ER c h w e tmps): ∀(vars:List ResultVar) (rs:List RV) (k:List SV->Prop),nQ P vars=some rs->rK rs e h k->
  ∃vs xs,k vs/\(vars.mapM fun v=>(match v with| .tmp t=>pure (tmps.getD t undef)| .cell a t=>do loadVar t (<- asAddr (tmps.getD a undef)):Sem Value)).run P w= .ok xs w/\xs.length=vs.length/\
   ∀(i:Nat) (v:SV) (x:Value),vs[i]? =some v->xs[i]? =some x->VR c h w v x
 | [],rs,k,hc,hp=>by
   simp only[nQ,Option.some.injEq]at hc;subst hc;exact⟨[],[],hp,by simp,rfl,fun i v x hv=>by simp at hv⟩
 | .tmp t::r,rs,k,hc,hp=>by
   simp only[nQ,Option.map_eq_some_iff]at hc;obtain⟨rs',hc,rfl⟩:=hc;simp only[rK,gJ]at hp;obtain⟨vs,xs,hk,hrun,hl,hv⟩:=qx hr he r rs' _ hc hp;refine⟨_,tmps.getD t undef::xs,hk,?_,by simp[hl],fun i v x h1 h2=> ?_⟩
   ·rw[List.mapM_cons]
    simp only[Sem.run_bind,Sem.run_pure,Result.andThen_ok,hrun]
   ·cases i with
    |zero=>simp at h1 h2;subst h1;rw[<- h2];simpa using he t
    |succ i=>exact hv i v x (by simpa using h1) (by simpa using h2)
 | .cell t ty::r,rs,k,hc,hp=>by
   simp only[nQ]at hc;split at hc
   ·rename_i i hag hi
    obtain⟨rs',St,rfl⟩:=Option.map_eq_some_iff.1 hc;simp only[rK,gJ]at hp;obtain⟨cs,sub,b,base,C,VQ,fz,hk,hx,hw,hle,Bw⟩:=oc hr (he t) hp;obtain⟨h1,hk⟩:=dY.1 hk;obtain⟨h2,hk⟩:=cT.1 hk;simp only[List.length_drop]at h2;obtain⟨vs,xs,hk,hrun,hl,hv⟩:=qx hr he r rs' _ St hk
    let l:=(C.toList.drop (base+sub)).take i.size
    have L5:l.length=i.size:=by simp[l];omega
    have Ko:=run_loadCells_list (P:=P) w ⟨b,base+sub,none⟩ l (fun j v hv=>by
     rw[add_eq];simp only[World.cell?,hw,Option.isSome_none];simp only[l,List.getElem?_take,List.getElem?_drop]at hv;split at hv
     ·simpa using hv
     ·cases hv)
    rw[L5]at Ko;refine⟨_,.agg l.toArray::xs,hk,?_,by simp[hl],fun j v x q1 q2=> ?_⟩
    ·rw[List.mapM_cons,Sem.run_bind]
     have yV:(do loadVar ty (<- asAddr (tmps.getD t undef)):Sem Value).run P w= .ok (.agg l.toArray) w:=by
      simp only[Sem.run_bind,hx,asAddr,Sem.run_pure,Result.andThen_ok,loadVar,fT hag,if_true,cS hi,Ko]
     refine(congrArg (fun r=>Result.andThen r _) yV).trans ?_;simp only[Result.andThen_ok,Sem.run_bind,hrun,Sem.run_pure]
    ·cases j with
     |zero=>
      simp at q1 q2;subst q1;subst q2
      refine .agg _ _ (by simp[l];omega) fun j v y hv hy=> ?_
      simp only[List.getElem?_take,List.getElem?_drop]at hv;simp only[l,List.getElem?_toArray,List.getElem?_take,List.getElem?_drop]at hy;split at hv
      ·rw[if_pos ‹_›]at hy
       exact Bw (sub+j) v y hv (by simpa[Nat.add_assoc]using hy)
      ·cases hv
     |succ j=>exact hv j v x (by simpa using q1) (by simpa using q2)
   ·rename_i hag
    obtain⟨rs',St,rfl⟩:=Option.map_eq_some_iff.1 hc;simp only[rK,gJ]at hp;obtain⟨cs,sub,b,base,C,VQ,fz,hk,hx,hw,hle,Bw⟩:=oc hr (he t) hp;rw[dV]at hk;split at hk
    ·rename_i v0 hv0
     have hlt:sub<cs.length:=by
      rcases Nat.lt_or_ge sub cs.length with h|h
      ·exact h
      ·rw[List.getElem?_eq_none h]at hv0;cases hv0
     have hy:C[base+sub]? =some C[base+sub]:=Array.getElem?_eq_getElem (by omega);obtain⟨vs,xs,hk,hrun,hl,hv⟩:=qx hr he r rs' _ St hk;refine⟨_,C[base+sub]::xs,hk,?_,by simp[hl],fun j v x q1 q2=> ?_⟩
     ·rw[List.mapM_cons,Sem.run_bind]
      have hcell:w.cell? ⟨b,base+sub,none⟩=some C[base+sub]:=by simp[World.cell?,hw,hy]
      have yV:(do loadVar ty (<- asAddr (tmps.getD t undef)):Sem Value).run P w= .ok C[base+sub] w:=by
       simp only[Sem.run_bind,hx,asAddr,Sem.run_pure,Result.andThen_ok,loadVar,fT hag,Bool.false_eq_true,if_false,run_load,hcell]
      refine(congrArg (fun r=>Result.andThen r _) yV).trans ?_;simp only[Result.andThen_ok,Sem.run_bind,hrun,Sem.run_pure]
     ·cases j with
      |zero=>simp at q1 q2;subst q1;subst q2;exact Bw sub _ _ hv0 hy
      |succ j=>exact hv j v x (by simpa using q1) (by simpa using q2)
    ·exact hk.elim
   ·cases hc
theorem kI{P:Program}{fn:Func}{c:Cx}{h:Heap}{w:World}{e:Env}{tmps:Array Value}(hr:bP c h w)(he:ER c h w e tmps){rs:List RV}{R:bV->Heap->Prop}(hc:nQ P fn.results.toList=some rs)
  (hp:rK rs e h fun vs=>match vs with|[v]=>R (.ret v) h|vs=>R (.ret (.aN vs)) h): ∃v x,R (.ret v) h/\(results fn tmps).run P w= .ok x w/\VR c h w v x:=by
 obtain⟨vs,xs,hk,hrun,hl,hv⟩:=qx hr he fn.results.toList rs _ hc hp
 have hres:(results fn tmps).run P w= .ok (if hh:xs.toArray.size=1 then xs.toArray[0]else .tuple xs.toArray) w:=by
  unfold results;rw[Sem.run_bind,Array.mapM_eq_mapM_toList,Sem.run_map];exact congrArg (fun r=>Result.andThen (Result.andThen r _) _) hrun
 rw[hres];split at hk
 ·rename_i v
  obtain⟨x,rfl⟩: ∃x,xs=[x]:=List.length_eq_one_iff.1 (by simpa using hl);exact⟨v,x,hk,by simp,hv 0 v x rfl rfl⟩
 ·rename_i hne
  refine⟨_,_,hk,rfl,?_⟩;rw[dif_neg (fun hh=> ?_)]
  ·exact .aN _ _ (by simp[hl]) fun i v x h1 h2=>hv i v x h1 (by simpa using h2)
  ·have:vs.length=1:=by rw[<- hl];simpa using hh
   obtain⟨v,rfl⟩:=List.length_eq_one_iff.1 this;exact hne v rfl
theorem pH: ∀(l:List SV) (i t:Nat),Env.get (eL i l) t=if i<=t then l.getD (t-i) .undef else .undef
 | [],i,t=>by simp[eL,Env.get]
 |v::r,i,t=>by
  unfold eL Env.get;rcases bE i t with⟨h,h'⟩|⟨h,h'⟩<;>rw[h]
  ·subst h';simp
  ·simp only[cond_false]
   rw[pH r (i+1) t];by_cases hle:i<=t
   ·rw[if_pos hle,if_pos (by omega)]
    have:t-i=(t-(i+1))+1:=by omega
    rw[this];simp
   ·rw[if_neg hle,if_neg (by omega)]
theorem kZ{P:Program}{Γ:bH}{Λ:iO}(fF:Γ.Ok P)(mb: ∀b Q e h,Λ b Q e h->dx P b Q e h){f:FuncId}{fn:Func}{code:Code}{ac:bD}{rs:List RV}{args:List SV}{h:Heap}{R:bV->Heap->Prop}(hm:P.follows .mixedOrders=true)(hf:P.funcs[f]? =some fn)(hb:fn.body=some code)
  (ho:eK ac=true)(hc:erase ac=bW P fn.ntmps code)(DY:nQ P fn.results.toList=some rs)(hn:Nat.ble args.length fn.ntmps=true)(hp:nh P Γ Λ ac (uj rs R) (eL 0 args) h):aP P f args h R:=by
 refine⟨fun c w xs hr hs hv=> ?_⟩;have hn:=Nat.le_of_ble_eq_true hn;refine calls_of_wp hf hb (wp_mono (dN (n:=fn.ntmps) fF mb hm code ac _ _ h ho hc hp c w {tmps:=xs++Array.replicate (fn.ntmps-xs.size) undef,defers:=[]} hr (fun t=> ?_) (by simp;omega)) fun ex a' w' hpost=> ?_)
 ·rw[pH,if_pos (Nat.zero_le _),Nat.sub_zero]
  by_cases ht:t<args.length
  ·have h1:args[t]? =some args[t]:=List.getElem?_eq_getElem ht
   have h2:xs[t]? =some xs[t]:=Array.getElem?_eq_getElem (by omega);have:=hv t _ _ h1 h2;have e1:args.getD t .undef=args[t]:=by simp[List.getD,h1]
   have e2:(xs++Array.replicate (fn.ntmps-xs.size) undef).getD t undef=xs[t]:=by
    rw[Array.getD_eq_getD_getElem?,Array.getElem?_append_left (by omega),h2];rfl
   rw[e1,e2];exact this
  ·have e1:args.getD t .undef= .undef:=by simp[List.getD,List.getElem?_eq_none (Nat.le_of_not_lt ht)]
   rw[e1];exact .undef
 ·obtain⟨c',h',e',xx,hq,hr',hx',he',hn',hd',hex⟩:=hpost
  have fin:(rK rs e' h' fun vs=>match vs with|[v]=>R (.ret v) h'|vs=>R (.ret (.aN vs)) h')->a'.defers=[]/\ ∃v,(results fn a'.tmps).run P w'= .ok v w'/\ ∃c' h' r,R r h'/\bP c' h' w'/\Ext c h w c' h' w'/\match r with
   | .ret u=> ∃x,Ending.returned v= .returned x/\VR c' h' w' u x
   | .cZ u=> ∃x,Ending.returned v= .panicked [{v:=x,recovered:=false}]/\VR c' h' w' u x:=fun hq=>by
   obtain⟨v,x,hR,hrun,mB⟩:=kI (P:=P) (fn:=fn) hr' he' DY hq;exact⟨hd',x,hrun,c',h',.ret v,hR,hr',hx',x,rfl,mB⟩
  cases ex with
  |normal=>cases xx<;>first|exact hex.elim|exact fin hq
  |exit i=>cases xx<;>first|exact hex.elim|exact hq.elim
  |goto l=>cases xx<;>exact hex.elim
  |ret=>cases xx<;>first|exact hex.elim|exact fin hq
  |panic ch=>
   cases xx<;>try exact hex.elim
   obtain⟨x,rfl,mB⟩:=hex;exact⟨hd',c',h',.cZ _,hq,hr',hx',x,rfl,mB⟩
  |outgrown=>cases xx<;>exact hex.elim
theorem xP{P:Program}{f:FuncId}{fn:Func}{code:Code}{ac:bD}{rs:List RV}{args:List SV}{h:Heap}{R:bV->Heap->Prop}(hm:P.follows .mixedOrders=true)(hf:P.funcs[f]? =some fn)(hb:fn.body=some code)
  (ho:eK ac=true)(hc:erase ac=bW P fn.ntmps code)(DY:nQ P fn.results.toList=some rs)(hn:Nat.ble args.length fn.ntmps=true)(hp:Gw P ac (uj rs R) (eL 0 args) h):aP P f args h R:=
 kZ (Γ:=si P) (Λ:=dx P) lI (fun _ _ _ _ h=>h) hm hf hb ho hc DY hn hp
theorem aP.mono{P:Program}{f:FuncId}{args:List SV}{h:Heap}{R R':bV->Heap->Prop}(hc:aP P f args h R)(hR: ∀r h',R r h'->R' r h'):aP P f args h R':=
 ⟨fun c w xs hr hs hv=>(hc.calls c w xs hr hs hv).mono fun _ _ ⟨c',h',r,hk,rest⟩=>⟨c',h',r,hR r h' hk,rest⟩⟩
end Ab
