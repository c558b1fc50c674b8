/- Parts of the proof of PCatalogBack, one behind the other, with short names. -/
import Derived.Test.YtegmnocpkgpgeaaGreatDoorZ16
import Derived.LoopN
set_option linter.unusedVariables false
set_option linter.unusedSimpArgs false
namespace Ab
open Go
def SV.lt:Nat->Nat->SV->Bool
 |0,_,_=>false
 |f+1,n,v=>match v with
  | .ref i _ _ _=>Nat.blt i n
  | .sl i _ _ _ _ _=>Nat.blt i n
  | .cW i _=>Nat.blt i n
  | .agg l| .bn l=>l.all (SV.lt f n)
  | .func _ a b=>a.all (SV.lt f n)&&b.all (SV.lt f n)
  | .iface _ v=>SV.lt f n v
  |_=>true
def zm(n:Nat):ai->Prop
 | .vec _ _ elems _=> ∀v∈elems,SV.lt 8 n v=true
 | .iter _ _=>True
 | .map _ _=>True
 | .cy m _ _ _=>SV.lt 8 n m=true
 | .kf .. =>True
noncomputable section
def wO:List Nat->Env->(Env->Prop)->Prop
 | [],_,k=>k []
 |t::ts,e,k=>Env.u5 e t fun v=>wO ts e fun e'=>k ((t,v)::e')
def bH(n:Nat)(l:List SV)(k:Prop):Prop:= @List.rec SV (fun _=>Prop) k (fun v _ ih=>cY (SV.lt 8 n v) ih) l
def EP(n:Nat)(o:ai)(k:Prop):Prop:=match o with
 | .vec _ _ elems _=>bH n elems k
 | .iter _ _=>k
 | .map _ _=>k
 | .cy m _ _ _=>cY (SV.lt 8 n m) k
 | .kf .. =>k
def Gr(n:Nat)(l:List (Nat×ai)):(List (Nat×ai)->Prop)->Prop:=
 @List.rec (Nat×ai) (fun _=>(List (Nat×ai)->Prop)->Prop) (fun k=>k [])
  (fun x _ ih k=>match x with
   |(i,o)=> @Bool.rec (fun _=>Prop) (ih k) (EP n o (ih fun r'=>k ((i,o)::r'))) (Nat.blt i n)) l
def WU(n:Nat):Env->Bool
 | []=>true
 |(_,v)::r=>SV.lt 8 n v&&WU n r
def CG(ks:List Nat)(n:Nat)(e:Env)(h:Heap)(k:Env->Heap->Prop):Prop:=wO ks e fun e'=>match h with
 |⟨m,l⟩=> @Bool.rec (fun _=>Prop) (cY (WU n e'&&Nat.ble n m) (Gr n l fun l'=>k e' ⟨n,l'⟩)) (k e' ⟨m,l⟩) (Nat.beq m n)
def CH(ks:List Nat)(n:Nat)(Q:bS->Env->Heap->Prop)(I:Env->Heap->Prop):bS->Env->Heap->Prop
 | .normal,e,h=>CG ks n e h I
 |x,e,h=>Q x e h
def Env.keys:Env->List Nat
 | []=>[]
 |(t,_)::r=>t::Env.keys r
end
theorem VR.cut{c:Cx}{A A':Heap}{w:World}(hsub: ∀i o,A'.obj i=some o->A.obj i=some o): ∀(f:Nat) {v:SV} {x:Value},SV.lt f A'.cI v=true->VR c A w v x->VR c A' w v x:=by
 intro f
 induction f with
 |zero=>intro v x hl;cases hl
 |succ f ih=>
  intro v x hl hv;have QG: ∀i,Nat.blt i A'.cI=true->i<A'.cI:=fun i hi=>Nat.lt_of_succ_le (by simpa[Nat.blt]using hi)
  cases hv with
  |pure h=>exact .pure h
  |ref i g idx sub x hx hi hg h=>exact .ref _ _ _ _ _ hx (QG i hl) (fun o ho=>hg o (hsub i o ho)) fun o ho=>h o (hsub i o ho)
  |sl i g sz off len cap x hx hi hg h=>exact .sl _ _ _ _ _ _ _ hx (QG i hl) (fun o ho=>hg o (hsub i o ho)) fun o ho=>h o (hsub i o ho)
  |cW i g x hx hi hg h=>exact .cW _ _ _ hx (QG i hl) (fun o ho=>hg o (hsub i o ho)) fun o ho=>h o (hsub i o ho)
  |iface t v x h=>exact .iface _ _ _ (ih hl h)
  |agg l cs qV h=>exact .agg _ _ qV fun i v y h1 h2=>ih (List.all_eq_true.1 hl v (List.mem_of_getElem? h1)) (h i v y h1 h2)
  |bn l cs qV h=>exact .bn _ _ qV fun i v y h1 h2=>ih (List.all_eq_true.1 hl v (List.mem_of_getElem? h1)) (h i v y h1 h2)
  |func fn a b a' b' ha hb h h'=>
   simp only[SV.lt,Bool.and_eq_true]at hl;exact .func _ _ _ _ _ ha hb (fun i v y h1 h2=>ih (List.all_eq_true.1 hl.1 v (List.mem_of_getElem? h1)) (h i v y h1 h2)) fun i v y h1 h2=>ih (List.all_eq_true.1 hl.2 v (List.mem_of_getElem? h1)) (h' i v y h1 h2)
theorem rM{n:Nat}{k:Prop}: ∀ {l:List SV},bH n l k<->(∀ v∈l,SV.lt 8 n v=true)/\k
 | []=>by simp[bH]
 |v::r=>by
  have e:bH n (v::r) k=cY (SV.lt 8 n v) (bH n r k):=rfl;rw[e,ah,rM];simp[and_assoc]
theorem au{n:Nat}{k:Prop}{l:List SV}(h: ∀v∈l,SV.lt 8 n v=true)(hk:k):bH n l k:=rM.2 ⟨h,hk⟩
theorem ES{n:Nat}{o:ai}{k:Prop}(h:EP n o k):zm n o/\k:=by
 cases o with
 |vec g sz elems sk=>exact rM.1 h
 |iter s pos=>exact⟨trivial,h⟩
 |map es cl=>exact⟨trivial,h⟩
 |cy m since seen stepped=>exact ah.1 h
 |kf g ty xs=>exact⟨trivial,h⟩
theorem tP{n:Nat}: ∀ {l:List (Nat×ai)} {k:List (Nat×ai)->Prop},Gr n l k-> ∃l',k l'/\(∀ i o,ak l' i=some o->ak l i=some o/\i<n/\zm n o)/\True
 | [],k,hp=>⟨[],hp,(fun i o ho=>by cases ho),trivial⟩
 |(i,o)::r,k,hp=>by
  replace hp: @Bool.rec (fun _=>Prop) (Gr n r k) (EP n o (Gr n r fun r'=>k ((i,o)::r'))) (Nat.blt i n):=hp
  rcases Bw hp with⟨hb,hp⟩|⟨hb,hp⟩
  ·obtain⟨ho,hp⟩:=ES hp
   obtain⟨l',hk,hl,_⟩:=tP hp;refine⟨_,hk,fun j oj hj=> ?_,trivial⟩;unfold ak at hj ⊢;by_cases hij:i=j
   ·rw[if_pos hij]at hj ⊢
    cases hj
    exact⟨rfl,by rw[<- hij];exact Nat.lt_of_succ_le (by simpa[Nat.blt]using hb),ho⟩
   ·rw[if_neg hij]at hj ⊢
    exact hl j oj hj
  ·obtain⟨l',hk,hl,_⟩:=tP hp
   refine⟨l',hk,fun j oj hj=> ?_,trivial⟩;obtain⟨h1,h2,h3⟩:=hl j oj hj;refine⟨?_,h2,h3⟩;unfold ak;rw[if_neg (fun hij=> ?_)]
   ·exact h1
   ·subst hij
    have:Nat.blt i n=true:=by
     have:i+1<=n:=h2;simpa[Nat.blt]using this
    rw[this]at hb;cases hb
theorem tQ: ∀ {ks:List Nat} {e:Env} {k:Env->Prop},wO ks e k-> ∃e',k e'/\ ∀t,Env.get e' t= .undef\/Env.get e' t=Env.get e t
 | [],e,k,hp=>⟨[],hp,fun t=> .inl rfl⟩
 |s::ts,e,k,hp=>by
  simp only[wO,iT]at hp;obtain⟨e',hk,he⟩:=tQ hp;refine⟨_,hk,fun t=> ?_⟩
  conv=>lhs;lhs;unfold Env.get
  conv=>rhs;lhs;unfold Env.get
  rcases bO s t with⟨h,h'⟩|⟨h,h'⟩<;>rw[h]
  ·subst h';exact .inr rfl
  ·exact he t
theorem Gs{n:Nat}: ∀ {e:Env},WU n e=true-> ∀t,SV.lt 8 n (Env.get e t)=true
 | [],_,t=>rfl
 |(s,v)::r,hl,t=>by
  simp only[WU,Bool.and_eq_true]at hl;unfold Env.get;rcases bO s t with⟨h,h'⟩|⟨h,h'⟩<;>rw[h]
  ·exact hl.1
  ·exact Gs hl.2 t
theorem nS{ks:List Nat}{n:Nat}{e:Env}{h:Heap}{k:Env->Heap->Prop}(hp:CG ks n e h k){c:Cx}{w:World}{tmps:Array Value}(hr:bT c h w)(he:ER c h w e tmps){c0:Cx}{h0:Heap}{w0:World}(hx:Ext c0 h0 w0 c h w)(hn:h0.cI<=n):
  ∃e' h',k e' h'/\bT c h' w/\ER c h' w e' tmps/\Ext c0 h0 w0 c h' w:=by
 unfold CG at hp;obtain⟨e',hp,hee⟩:=tQ hp;obtain⟨m,l⟩:=h
 have he':ER c ⟨m,l⟩ w e' tmps:=fun t=>by
  rcases hee t with h|h
  ·rw[h];exact .undef
  ·rw[h];exact he t
 rcases Bw hp with⟨hb,hp⟩|⟨hb,hp⟩
 ·exact⟨e',_,hp,hr,he',hx⟩
 ·replace hp:=ah.1 hp
  obtain⟨hlt,hp⟩:=hp;simp only[Bool.and_eq_true]at hlt;obtain⟨l',hk,hl,_⟩:=tP hp;have hsub: ∀i o,(Heap.mk n l').obj i=some o->(Heap.mk m l).obj i=some o:=fun i o ho=>(hl i o ho).1
  refine⟨e',_,hk,⟨fun i o ho=>(hl i o ho).2.1,fun i o ho=> ?_,fun i j o p ho hp' heq=>hr.inj i j o p (hsub i o ho) (hsub j p hp') heq,fun i o ho=>hr.apart i o (hsub i o ho),hr.im,hr.dj⟩,fun t=>(he' t).cut hsub 8 (Gs hlt.1 t),?_⟩
  ·have jn:=hr.obj i o (hsub i o ho)
   have Kl:=(hl i o ho).2.2;cases jn with
   |vec g sz elems fS C ty fz hw hle heq hty hc hf hcell=>
    refine .vec g sz elems fS C ty fz hw hle heq hty hc hf fun i j e v x h1 h2 h3=> ?_
    have hv:=hcell i j e v x h1 h2 h3;have Km:=Kl e (List.mem_of_getElem? h1);by_cases mP: ∃l,e= .agg l
    ·obtain⟨l,rfl⟩:=mP
     exact hv.cut hsub 7 (List.all_eq_true.1 Km v (List.mem_of_getElem? h2))
    ·have h1:e.cells=[e]:=by cases e<;>first|rfl|exact absurd ⟨_,rfl⟩ mP
     rw[h1]at h2;cases j with
     |zero=>simp at h2;subst h2;exact hv.cut hsub 8 Km
     |succ j=>simp at h2
   |iter s pos hw=>exact .iter s pos hw
   |map es cl hw hs=>exact .map es cl hw hs
   |cy m since seen stepped r hw hm=>exact .cy m since seen stepped r hw (hm.cut hsub 8 Kl)
   |kf g ty xs C fz hw hle hc=>exact .kf g ty xs C fz hw hle hc
  ·refine⟨hx.os,hx.tape,hx.output,hx.size,hx.frame,hx.shape,hx.im,hx.im',hn,fun i o' hi ho'=>hx.old i o' hi (hsub i o' ho'),fun i o' ho'=>hx.new i o' (hsub i o' ho')⟩
theorem Np{P:Program}{b:bK}{Q:bS->Env->Heap->Prop}(J:Nat->Env->Heap->Prop)
  (hJ: ∀m e h,J m e h->D9 P b (CH (Env.keys e) h.cI Q (fun e' h'=> ∃m',m'<m/\J m' e' h')) e h){m:Nat}{e:Env}{h:Heap}(h0:J m e h):dR P b Q e h:=by
 refine⟨fun n code mc me hc c w a hr he hn=> ?_⟩
 let I:Nat->Act->World->Prop:=fun m' a' w'=> ∃c' e' h',J m' e' h'/\bT c' h' w'/\Ext c h w c' h' w'/\ER c' h' w' e' a'.tmps/\a'.tmps.size=n/\a'.defers=a.defers
 have eF: ∀a' w',(∃ m',I m' a' w')-> ∃m',I m' a' w'/\ ∀k6,I k6 a' w'->m'<=k6:=by
  intro a' w' ⟨m',hm'⟩;refine Classical.byContradiction fun hno=> ?_
  have: ∀k,∀k6,k6<=k-> ¬I k6 a' w':=by
   intro k
   induction k with
   |zero=>intro k6 hk hI;exact hno ⟨k6,hI,fun m3 _=>by omega⟩
   |succ k ih=>
    intro k6 hk hI;refine hno ⟨k6,hI,fun m3 h3=> ?_⟩;rcases Nat.lt_or_ge k m3 with h|h
    ·omega
    ·exact absurd h3 (ih m3 h)
  exact this m' m' (Nat.le_refl _) hm'
 classical
 let μ:Act->World->Nat:=fun a' w'=>if hh: ∃m',I m' a' w' then Classical.choose (eF a' w' hh)else 0
 have Gt: ∀a' w' m',I m' a' w'->I (μ a' w') a' w'/\μ a' w'<=m':=by
  intro a' w' m' hm';have hh: ∃m',I m' a' w':=⟨m',hm'⟩;have hs:=Classical.choose_spec (eF a' w' hh);have e:μ a' w'=Classical.choose (eF a' w' hh):=by simp only[μ];rw[dif_pos hh]
  rw[e];exact⟨hs.1,hs.2 m' hm'⟩
 refine wp_loop (fun a' w'=> ∃m',I m' a' w') μ ⟨m,c,e,h,h0,hr,.refl,he,hn,rfl⟩ fun a1 w1 hI=> ?_
 obtain⟨m1,Nq⟩:=hI;obtain⟨⟨c1,e1,h1,hj,og,hx1,EG,wB,hd1⟩,_⟩:=Gt a1 w1 m1 Nq;have hb:=iN (n:=n) mc code b _ e1 h1 me hc (hJ _ e1 h1 hj) c1 w1 a1 og EG wB;refine wp_mono hb fun ex a2 w2 hpost=> ?_
 obtain⟨c2,h2,e2,xx,hq,gV,hx2,iL,hn2,iR,hex⟩:=hpost;cases ex with
 |normal=>
  cases xx<;>try exact hex.elim
  obtain⟨e3,h3,⟨m3,hlt,Ie⟩,Kn,ET,hx3⟩:=nS (ks:=Env.keys e1) (k:=fun e' h'=> ∃m',m'<μ a1 w1/\J m' e' h') hq gV iL hx2 (Nat.le_refl _);simp only[Exit.then];have CI:I m3 a2 w2:=⟨c2,e3,h3,Ie,Kn,hx1.trans hr hx3,ET,hn2,iR.trans hd1⟩;exact⟨⟨m3,CI⟩,Nat.lt_of_le_of_lt (Gt a2 w2 m3 CI).2 hlt⟩
 |exit i=>cases xx<;>first|exact hex.elim|exact⟨c2,h2,e2,_,hq,gV,hx1.trans hr hx2,iL,hn2,iR.trans hd1,hex⟩
 |goto l=>cases xx<;>exact hex.elim
 |ret=>cases xx<;>first|exact hex.elim|exact⟨c2,h2,e2,_,hq,gV,hx1.trans hr hx2,iL,hn2,iR.trans hd1,hex⟩
 |panic ch=>cases xx<;>first|exact hex.elim|exact⟨c2,h2,e2,_,hq,gV,hx1.trans hr hx2,iL,hn2,iR.trans hd1,hex⟩
 |outgrown=>cases xx<;>exact hex.elim
theorem Ko{P:Program}{b:bK}{Q:bS->Env->Heap->Prop}(J:Nat->Env->Heap->Prop)
  (hJ: ∀m e h,J m e h-> ∃N K,h.cI<=N/\(∀ e' h',K e' h'-> ∃m',m'<m/\J m' e' h')/\D9 P b (CH (Env.keys e) N Q K) e h){m:Nat}{e:Env}{h:Heap}(h0:J m e h):dR P b Q e h:=by
 refine⟨fun n code mc me hc c w a hr he hn=> ?_⟩
 let I:Nat->Act->World->Prop:=fun m' a' w'=> ∃c' e' h',J m' e' h'/\bT c' h' w'/\Ext c h w c' h' w'/\ER c' h' w' e' a'.tmps/\a'.tmps.size=n/\a'.defers=a.defers
 have eF: ∀a' w',(∃ m',I m' a' w')-> ∃m',I m' a' w'/\ ∀k6,I k6 a' w'->m'<=k6:=by
  intro a' w' ⟨m',hm'⟩;refine Classical.byContradiction fun hno=> ?_
  have: ∀k,∀k6,k6<=k-> ¬I k6 a' w':=by
   intro k
   induction k with
   |zero=>intro k6 hk hI;exact hno ⟨k6,hI,fun m3 _=>by omega⟩
   |succ k ih=>
    intro k6 hk hI;refine hno ⟨k6,hI,fun m3 h3=> ?_⟩;rcases Nat.lt_or_ge k m3 with h|h
    ·omega
    ·exact absurd h3 (ih m3 h)
  exact this m' m' (Nat.le_refl _) hm'
 classical
 let μ:Act->World->Nat:=fun a' w'=>if hh: ∃m',I m' a' w' then Classical.choose (eF a' w' hh)else 0
 have Gt: ∀a' w' m',I m' a' w'->I (μ a' w') a' w'/\μ a' w'<=m':=by
  intro a' w' m' hm';have hh: ∃m',I m' a' w':=⟨m',hm'⟩;have hs:=Classical.choose_spec (eF a' w' hh);have e:μ a' w'=Classical.choose (eF a' w' hh):=by simp only[μ];rw[dif_pos hh]
  rw[e];exact⟨hs.1,hs.2 m' hm'⟩
 refine wp_loop (fun a' w'=> ∃m',I m' a' w') μ ⟨m,c,e,h,h0,hr,.refl,he,hn,rfl⟩ fun a1 w1 hI=> ?_
 obtain⟨m1,Nq⟩:=hI;obtain⟨⟨c1,e1,h1,hj,og,hx1,EG,wB,hd1⟩,_⟩:=Gt a1 w1 m1 Nq;obtain⟨N,K,hN,hK,EU⟩:=hJ _ e1 h1 hj;have hb:=iN (n:=n) mc code b _ e1 h1 me hc EU c1 w1 a1 og EG wB;refine wp_mono hb fun ex a2 w2 hpost=> ?_
 obtain⟨c2,h2,e2,xx,hq,gV,hx2,iL,hn2,iR,hex⟩:=hpost;cases ex with
 |normal=>
  cases xx<;>try exact hex.elim
  obtain⟨e3,h3,Px,Kn,ET,hx3⟩:=nS (ks:=Env.keys e1) (k:=K) hq gV iL hx2 hN;obtain⟨m3,hlt,Ie⟩:=hK _ _ Px;simp only[Exit.then];have CI:I m3 a2 w2:=⟨c2,e3,h3,Ie,Kn,hx1.trans hr hx3,ET,hn2,iR.trans hd1⟩;exact⟨⟨m3,CI⟩,Nat.lt_of_le_of_lt (Gt a2 w2 m3 CI).2 hlt⟩
 |exit i=>cases xx<;>first|exact hex.elim|exact⟨c2,h2,e2,_,hq,gV,hx1.trans hr hx2,iL,hn2,iR.trans hd1,hex⟩
 |goto l=>cases xx<;>exact hex.elim
 |ret=>cases xx<;>first|exact hex.elim|exact⟨c2,h2,e2,_,hq,gV,hx1.trans hr hx2,iL,hn2,iR.trans hd1,hex⟩
 |panic ch=>cases xx<;>first|exact hex.elim|exact⟨c2,h2,e2,_,hq,gV,hx1.trans hr hx2,iL,hn2,iR.trans hd1,hex⟩
 |outgrown=>cases xx<;>exact hex.elim
theorem nU{P:Program}{b:bK}{Q:bS->Env->Heap->Prop}{σ:Type}(env:σ->Env)(hp:σ->Heap)(μ:σ->Nat)
  (step: ∀s,D9 P b (CH (Env.keys (env s)) (hp s).cI Q (fun e' h'=> ∃s',μ s'<μ s/\e'=env s'/\h'=hp s')) (env s) (hp s))(s:σ):dR P b Q (env s) (hp s):=
 Np (fun m e h=> ∃s,μ s=m/\e=env s/\h=hp s) (fun m e h ⟨s,hm,he,hh⟩=>by
  subst hm;subst he;subst hh
  have key:(fun e' h'=> ∃s',μ s'<μ s/\e'=env s'/\h'=hp s')=fun e' h'=> ∃m',m'<μ s/\ ∃s,μ s=m'/\e'=env s/\h'=hp s:=by
   funext e' h';apply propext
   constructor
   ·rintro⟨s',hlt,he,hh⟩;exact⟨_,hlt,s',rfl,he,hh⟩
   ·rintro⟨m',hlt,s',rfl,he,hh⟩;exact⟨s',hlt,he,hh⟩
  rw[<- key];exact step s) ⟨s,rfl,rfl,rfl⟩
structure dh(P:Program)(b:bK)(Q:bS->Env->Heap->Prop)(m:Nat)(e:Env)(h:Heap):Prop where
 run: ∀n code,P.follows .mixedOrders=true->fh b=true->erase b=cB P n code-> ∀(c:Cx) (w:World) (a:Act),bT c h w->ER c h w e a.tmps->a.tmps.size=n->Code.rounds P code (Post c h w Q n a.defers) m a w
theorem mB{P:Program}{code:Code}{Q Q':Exit->Act->World->Prop}(hq: ∀e a w,Q e a w->Q' e a w): ∀(m:Nat) {a:Act} {w:World},Code.rounds P code Q m a w->Code.rounds P code Q' m a w
 |0,_,_,h=>h.elim
 |m+1,_,_,h=>by
  rw[rounds_succ]at h ⊢;refine wp_mono h fun ex a' w' hx=> ?_
  cases ex<;>first|exact hq _ _ _ hx|exact mB hq m hx
theorem dh.succ{P:Program}{b:bK}{Q:bS->Env->Heap->Prop}{m:Nat}{e:Env}{h:Heap}(hp:D9 P b (CH (Env.keys e) h.cI Q (dh P b Q m)) e h):dh P b Q (m+1) e h:=by
 refine⟨fun n code mc me hc c w a hr he hn=> ?_⟩;rw[rounds_succ];refine wp_mono (iN (n:=n) mc code b _ e h me hc hp c w a hr he hn) fun ex a2 w2 hpost=> ?_
 obtain⟨c2,h2,e2,xx,hq,gV,hx2,iL,hn2,iR,hex⟩:=hpost;cases ex with
 |normal=>
  cases xx<;>try exact hex.elim
  obtain⟨e3,h3,Ie,Kn,ET,hx3⟩:=nS (ks:=Env.keys e) (k:=dh P b Q m) hq gV iL hx2 (Nat.le_refl _);simp only[Exit.then];have:=Ie.run n code mc me hc c2 w2 a2 Kn ET hn2;rw[iR]at this;exact mB (fun _ _ _ tE=>tE.of hr hx3) m this
 |exit i=>cases xx<;>first|exact hex.elim|exact⟨c2,h2,e2,_,hq,gV,hx2,iL,hn2,iR,hex⟩
 |goto l=>cases xx<;>exact hex.elim
 |ret=>cases xx<;>first|exact hex.elim|exact⟨c2,h2,e2,_,hq,gV,hx2,iL,hn2,iR,hex⟩
 |panic ch=>cases xx<;>first|exact hex.elim|exact⟨c2,h2,e2,_,hq,gV,hx2,iL,hn2,iR,hex⟩
 |outgrown=>cases xx<;>exact hex.elim
theorem cz{P:Program}{b:bK}{Q:bS->Env->Heap->Prop}(m:Nat){e:Env}{h:Heap}(hp:dh P b Q m e h):dR P b Q e h:=
 ⟨fun n code mc me hc c w a hr he hn=>wp_loop_rounds m (hp.run n code mc me hc c w a hr he hn)⟩
section
noncomputable section
def Py(ks:List Nat)(Q:bS->Env->Heap->Prop)(I:Env->Heap->Prop):bS->Env->Heap->Prop
 | .normal,e,h=>wO ks e fun e'=>I e' h
 |x,e,h=>Q x e h
end
structure HSub(A' A:Heap):Prop where
 cI:A'.cI=A.cI
 sub: ∀i o,A'.obj i=some o->A.obj i=some o
theorem HSub.refl(A:Heap):HSub A A:=⟨rfl,fun _ _ h=>h⟩
theorem VR.hsub{c:Cx}{A A':Heap}{w:World}(hs:HSub A' A){v:SV}{x:Value}(h:VR c A w v x):VR c A' w v x:=by
 induction h with
 |pure h=>exact .pure h
 |ref i g idx sub x hx hi hg h=>exact .ref _ _ _ _ _ hx (by rw[hs.cI];exact hi) (fun o ho=>hg o (hs.sub i o ho)) fun o ho=>h o (hs.sub i o ho)
 |sl i g sz off len cap x hx hi hg h=>exact .sl _ _ _ _ _ _ _ hx (by rw[hs.cI];exact hi) (fun o ho=>hg o (hs.sub i o ho)) fun o ho=>h o (hs.sub i o ho)
 |cW i g x hx hi hg h=>exact .cW _ _ _ hx (by rw[hs.cI];exact hi) (fun o ho=>hg o (hs.sub i o ho)) fun o ho=>h o (hs.sub i o ho)
 |iface t v x _ ih=>exact .iface _ _ _ ih
 |agg l cs hl _ ih=>exact .agg _ _ hl ih
 |bn l cs hl _ ih=>exact .bn _ _ hl ih
 |func fn a b a' b' ha hb _ _ ih Ak=>exact .func _ _ _ _ _ ha hb ih Ak
theorem bT.hsub{c:Cx}{A A':Heap}{w:World}(hs:HSub A' A)(hr:bT c A w):bT c A' w:=by
 refine⟨fun i o ho=>by rw[hs.cI];exact hr.lt i o (hs.sub i o ho),fun i o ho=> ?_,fun i j o p ho hp he=>hr.inj i j o p (hs.sub i o ho) (hs.sub j p hp) he,fun i o ho=>hr.apart i o (hs.sub i o ho),hr.im,hr.dj⟩;cases hr.obj i o (hs.sub i o ho)with
 |vec g sz elems sk C ty fz hw hle heq hty hc hf hcell=>exact .vec g sz elems sk C ty fz hw hle heq hty hc hf fun i j e v x a b d=>(hcell i j e v x a b d).hsub hs
 |iter s pos hw=>exact .iter s pos hw
 |map es cl hw hs'=>exact .map es cl hw hs'
 |cy m since seen stepped r hw hm=>exact .cy m since seen stepped r hw (hm.hsub hs)
 |kf g ty xs C fz hw hle hc=>exact .kf g ty xs C fz hw hle hc
theorem Ext.hsub{c:Cx}{A A':Heap}{w:World}(hs:HSub A' A):Ext c A w c A' w:=
 ⟨rfl,rfl,rfl,Nat.le_refl _,fun _ _ _=>rfl,fun _ _=>rfl,fun _ h=>h,fun _ h=> .inl h,Nat.le_of_eq hs.cI.symm,fun i o' _ h=>⟨o',hs.sub i o' h,Nat.le_refl _,rfl,fun _=>rfl⟩,fun i o' h=> .inr ⟨o',hs.sub i o' h,rfl⟩⟩
theorem CJ{ks:List Nat}{e:Env}{h:Heap}{I:Env->Heap->Prop}(hp:wO ks e fun e'=>I e' h){c:Cx}{w:World}{tmps:Array Value}(he:ER c h w e tmps): ∃e',I e' h/\ER c h w e' tmps:=by
 obtain⟨e',h1,h2⟩:=tQ hp;refine⟨e',h1,fun t=> ?_⟩;rcases h2 t with h3|h3<;>rw[h3]
 ·exact .undef
 ·exact he t
theorem Ig{P:Program}{b:bK}{Q:bS->Env->Heap->Prop}{σ:Type}(env:σ->Env)(hp:σ->Heap)(μ:σ->Nat)
  (step: ∀s,D9 P b (Py (Env.keys (env s)) Q (fun e' h'=> ∃s',μ s'<μ s/\e'=env s'/\HSub (hp s') h')) (env s) (hp s))(s:σ){h:Heap}(h0:HSub (hp s) h):dR P b Q (env s) h:=by
 refine⟨fun n code mc me hc c w a hr he hn=> ?_⟩
 let I:σ->Act->World->Prop:=fun s' a' w'=> ∃c',bT c' (hp s') w'/\Ext c h w c' (hp s') w'/\ER c' (hp s') w' (env s') a'.tmps/\a'.tmps.size=n/\a'.defers=a.defers
 have eF: ∀a' w',(∃ s',I s' a' w')-> ∃s',I s' a' w'/\ ∀s'',I s'' a' w'->μ s'<=μ s'':=by
  intro a' w' ⟨s',hs'⟩;refine Classical.byContradiction fun hno=> ?_
  have: ∀k,∀s'',μ s''<=k-> ¬I s'' a' w':=by
   intro k
   induction k with
   |zero=>intro s'' hk hI;exact hno ⟨s'',hI,fun s3 _=>by omega⟩
   |succ k ih=>
    intro s'' hk hI;refine hno ⟨s'',hI,fun s3 h3=> ?_⟩;rcases Nat.lt_or_ge k (μ s3)with h|h
    ·omega
    ·exact absurd h3 (ih s3 h)
  exact this (μ s') s' (Nat.le_refl _) hs'
 classical
 let ν:Act->World->Nat:=fun a' w'=>if hh: ∃s',I s' a' w' then μ (Classical.choose (eF a' w' hh))else 0
 have Ze: ∀a' w' s',I s' a' w'-> ∃s'',I s'' a' w'/\μ s''=ν a' w'/\ν a' w'<=μ s':=by
  intro a' w' s' hs';have hh: ∃s',I s' a' w':=⟨s',hs'⟩;have hs:=Classical.choose_spec (eF a' w' hh);have e:ν a' w'=μ (Classical.choose (eF a' w' hh)):=by simp only[ν];rw[dif_pos hh]
  exact⟨_,hs.1,e.symm,by rw[e];exact hs.2 s' hs'⟩
 refine wp_loop (fun a' w'=> ∃s',I s' a' w') ν ⟨s,c,hr.hsub h0,.hsub h0,fun t=>(he t).hsub h0,hn,rfl⟩ fun a1 w1 hI=> ?_
 obtain⟨s0,hI0⟩:=hI;obtain⟨s1,⟨c1,og,hx1,EG,wB,hd1⟩,aac,_⟩:=Ze a1 w1 s0 hI0;have hb:=iN (n:=n) mc code b _ _ _ me hc (step s1) c1 w1 a1 og EG wB;refine wp_mono hb fun ex a2 w2 hpost=> ?_
 obtain⟨c2,h2,e2,xx,hq,gV,hx2,iL,hn2,iR,hex⟩:=hpost;cases ex with
 |normal=>
  cases xx<;>try exact hex.elim
  obtain⟨e3,⟨s3,hlt,rfl,hs3⟩,ET⟩:=CJ (I:=fun e' h'=> ∃s',μ s'<μ s1/\e'=env s'/\HSub (hp s') h') hq iL;simp only[Exit.then];have CI:I s3 a2 w2:=⟨c2,gV.hsub hs3,(hx1.trans hr hx2).trans hr (.hsub hs3),fun t=>(ET t).hsub hs3,hn2,iR.trans hd1⟩;obtain⟨s4,_,aad,Nr⟩:=Ze a2 w2 s3 CI;exact⟨⟨s3,CI⟩,by omega⟩
 |exit i=>cases xx<;>first|exact hex.elim|exact⟨c2,h2,e2,_,hq,gV,hx1.trans hr hx2,iL,hn2,iR.trans hd1,hex⟩
 |goto l=>cases xx<;>exact hex.elim
 |ret=>cases xx<;>first|exact hex.elim|exact⟨c2,h2,e2,_,hq,gV,hx1.trans hr hx2,iL,hn2,iR.trans hd1,hex⟩
 |panic ch=>cases xx<;>first|exact hex.elim|exact⟨c2,h2,e2,_,hq,gV,hx1.trans hr hx2,iL,hn2,iR.trans hd1,hex⟩
 |outgrown=>cases xx<;>exact hex.elim
theorem dh.full{P:Program}{b:bK}{Q:bS->Env->Heap->Prop}{m:Nat}{e:Env}{h:Heap}(hp:D9 P b (Py (Env.keys e) Q (dh P b Q m)) e h):dh P b Q (m+1) e h:=by
 refine⟨fun n code mc me hc c w a hr he hn=> ?_⟩;rw[rounds_succ];refine wp_mono (iN (n:=n) mc code b _ e h me hc hp c w a hr he hn) fun ex a2 w2 hpost=> ?_
 obtain⟨c2,h2,e2,xx,hq,gV,hx2,iL,hn2,iR,hex⟩:=hpost;cases ex with
 |normal=>
  cases xx<;>try exact hex.elim
  obtain⟨e3,Ie,ET⟩:=CJ (I:=dh P b Q m) hq iL;simp only[Exit.then];have:=Ie.run n code mc me hc c2 w2 a2 gV ET hn2;rw[iR]at this;exact mB (fun _ _ _ tE=>tE.of hr hx2) m this
 |exit i=>cases xx<;>first|exact hex.elim|exact⟨c2,h2,e2,_,hq,gV,hx2,iL,hn2,iR,hex⟩
 |goto l=>cases xx<;>exact hex.elim
 |ret=>cases xx<;>first|exact hex.elim|exact⟨c2,h2,e2,_,hq,gV,hx2,iL,hn2,iR,hex⟩
 |panic ch=>cases xx<;>first|exact hex.elim|exact⟨c2,h2,e2,_,hq,gV,hx2,iL,hn2,iR,hex⟩
 |outgrown=>cases xx<;>exact hex.elim
end
inductive RV where
 |tmp (t:Nat)
 |Kp (t:Nat)
 |cH (t n:Nat)
def pX(P:Program):List ResultVar->Option (List RV)
 | []=>some []
 | .tmp t::r=>(pX P r).map (.tmp t:: ·)
 | .cell t ty::r=>match kO P ty,P.info? ty with
   |some true,some i=>(pX P r).map (.cH t i.size:: ·)
   |some false,_=>(pX P r).map (.Kp t:: ·)
   |_,_=>none
noncomputable section
def tS:List RV->Env->Heap->(List SV->Prop)->Prop
 | [],_,_,k=>k []
 | .tmp t::r,e,h,k=>Env.u5 e t fun v=>tS r e h fun vs=>k (v::vs)
 | .Kp t::r,e,h,k=>Env.u5 e t fun p=>nB h p fun cs sub=>match fm cs sub with
   |some v=>tS r e h fun vs=>k (v::vs)
   |none=>False
 | .cH t n::r,e,h,k=>Env.u5 e t fun p=>nB h p fun cs sub=>pF cs sub fun cs=>takeN cs n fun l=>tS r e h fun vs=>k (.agg l::vs)
def wP(rs:List RV)(R:bu->Heap->Prop):bS->Env->Heap->Prop
 | .normal,e,h| .ret,e,h=>tS rs e h fun vs=>match vs with
   | [v]=>R (.ret v) h
   |vs=>R (.ret (.bn vs)) h
 | .panic v,_,h=>R (.eY v) h
 | .exit _,_,_=>False
def gh:Nat->List SV->Env
 |_,[]=>[]
 |i,v::r=>(i,v)::gh (i+1) r
end
theorem sA{P:Program}{c:Cx}{h:Heap}{w:World}{e:Env}{tmps:Array Value}(hr:bT c h w)(he:ER c h w e tmps): ∀(vars:List ResultVar) (rs:List RV) (k:List SV->Prop),pX P vars=some rs->tS rs e h k->
  ∃vs xs,k vs/\(vars.mapM fun v=>(match v with| .tmp t=>pure (tmps.getD t undef)| .cell a t=>do loadVar t (<- asAddr (tmps.getD a undef)):Sem Value)).run P w= .ok xs w/\xs.length=vs.length/\
   ∀(i:Nat) (v:SV) (x:Value),vs[i]? =some v->xs[i]? =some x->VR c h w v x
 | [],rs,k,hc,hp=>by
   simp only[pX,Option.some.injEq]at hc;subst hc;exact⟨[],[],hp,by simp,rfl,fun i v x hv=>by simp at hv⟩
 | .tmp t::r,rs,k,hc,hp=>by
   simp only[pX,Option.map_eq_some_iff]at hc;obtain⟨rs',hc,rfl⟩:=hc;simp only[tS,iT]at hp;obtain⟨vs,xs,hk,hrun,hl,hv⟩:=sA hr he r rs' _ hc hp;refine⟨_,tmps.getD t undef::xs,hk,?_,by simp[hl],fun i v x h1 h2=> ?_⟩
   ·rw[List.mapM_cons]
    simp only[Sem.run_bind,Sem.run_pure,Result.andThen_ok,hrun]
   ·cases i with
    |zero=>simp at h1 h2;subst h1;rw[<- h2];simpa using he t
    |succ i=>exact hv i v x (by simpa using h1) (by simpa using h2)
 | .cell t ty::r,rs,k,hc,hp=>by
   simp only[pX]at hc;split at hc
   ·rename_i i hag hi
    obtain⟨rs',XT,rfl⟩:=Option.map_eq_some_iff.1 hc;simp only[tS,iT]at hp;obtain⟨cs,sub,b,base,C,tyy,fz,hk,hx,hw,hle,B6⟩:=qn hr (he t) hp;obtain⟨h1,hk⟩:=dQ.1 hk;obtain⟨h2,hk⟩:=cU.1 hk;simp only[List.length_drop]at h2;obtain⟨vs,xs,hk,hrun,hl,hv⟩:=sA hr he r rs' _ XT hk
    let l:=(C.toList.drop (base+sub)).take i.size
    have qV:l.length=i.size:=by simp[l];omega
    have Pz:=run_loadCells_list (P:=P) w ⟨b,base+sub,none⟩ l (fun j v hv=>by
     rw[add_eq];simp only[World.cell?,hw,Option.isSome_none];simp only[l,List.getElem?_take,List.getElem?_drop]at hv;split at hv
     ·simpa using hv
     ·cases hv)
    rw[qV]at Pz;refine⟨_,.agg l.toArray::xs,hk,?_,by simp[hl],fun j v x q1 q2=> ?_⟩
    ·rw[List.mapM_cons,Sem.run_bind]
     have BO:(do loadVar ty (<- asAddr (tmps.getD t undef)):Sem Value).run P w= .ok (.agg l.toArray) w:=by
      simp only[Sem.run_bind,hx,asAddr,Sem.run_pure,Result.andThen_ok,loadVar,hO hag,if_true,dy hi,Pz]
     refine(congrArg (fun r=>Result.andThen r _) BO).trans ?_;simp only[Result.andThen_ok,Sem.run_bind,hrun,Sem.run_pure]
    ·cases j with
     |zero=>
      simp at q1 q2;subst q1;subst q2
      refine .agg _ _ (by simp[l];omega) fun j v y hv hy=> ?_
      simp only[List.getElem?_take,List.getElem?_drop]at hv;simp only[l,List.getElem?_toArray,List.getElem?_take,List.getElem?_drop]at hy;split at hv
      ·rw[if_pos ‹_›]at hy
       exact B6 (sub+j) v y hv (by simpa[Nat.add_assoc]using hy)
      ·cases hv
     |succ j=>exact hv j v x (by simpa using q1) (by simpa using q2)
   ·rename_i hag
    obtain⟨rs',XT,rfl⟩:=Option.map_eq_some_iff.1 hc;simp only[tS,iT]at hp;obtain⟨cs,sub,b,base,C,tyy,fz,hk,hx,hw,hle,B6⟩:=qn hr (he t) hp;rw[cM]at hk;split at hk
    ·rename_i v0 hv0
     have hlt:sub<cs.length:=by
      rcases Nat.lt_or_ge sub cs.length with h|h
      ·exact h
      ·rw[List.getElem?_eq_none h]at hv0;cases hv0
     have hy:C[base+sub]? =some C[base+sub]:=Array.getElem?_eq_getElem (by omega);obtain⟨vs,xs,hk,hrun,hl,hv⟩:=sA hr he r rs' _ XT hk;refine⟨_,C[base+sub]::xs,hk,?_,by simp[hl],fun j v x q1 q2=> ?_⟩
     ·rw[List.mapM_cons,Sem.run_bind]
      have hcell:w.cell? ⟨b,base+sub,none⟩=some C[base+sub]:=by simp[World.cell?,hw,hy]
      have BO:(do loadVar ty (<- asAddr (tmps.getD t undef)):Sem Value).run P w= .ok C[base+sub] w:=by
       simp only[Sem.run_bind,hx,asAddr,Sem.run_pure,Result.andThen_ok,loadVar,hO hag,Bool.false_eq_true,if_false,run_load,hcell]
      refine(congrArg (fun r=>Result.andThen r _) BO).trans ?_;simp only[Result.andThen_ok,Sem.run_bind,hrun,Sem.run_pure]
     ·cases j with
      |zero=>simp at q1 q2;subst q1;subst q2;exact B6 sub _ _ hv0 hy
      |succ j=>exact hv j v x (by simpa using q1) (by simpa using q2)
    ·exact hk.elim
   ·cases hc
theorem mC{P:Program}{fn:Func}{c:Cx}{h:Heap}{w:World}{e:Env}{tmps:Array Value}(hr:bT c h w)(he:ER c h w e tmps){rs:List RV}{R:bu->Heap->Prop}(hc:pX P fn.results.toList=some rs)
  (hp:tS rs e h fun vs=>match vs with|[v]=>R (.ret v) h|vs=>R (.ret (.bn vs)) h): ∃v x,R (.ret v) h/\(results fn tmps).run P w= .ok x w/\VR c h w v x:=by
 obtain⟨vs,xs,hk,hrun,hl,hv⟩:=sA hr he fn.results.toList rs _ hc hp
 have hres:(results fn tmps).run P w= .ok (if hh:xs.toArray.size=1 then xs.toArray[0]else .tuple xs.toArray) w:=by
  unfold results;rw[Sem.run_bind,Array.mapM_eq_mapM_toList,Sem.run_map];exact congrArg (fun r=>Result.andThen (Result.andThen r _) _) hrun
 rw[hres];split at hk
 ·rename_i v
  obtain⟨x,rfl⟩: ∃x,xs=[x]:=List.length_eq_one_iff.1 (by simpa using hl);exact⟨v,x,hk,by simp,hv 0 v x rfl rfl⟩
 ·rename_i hne
  refine⟨_,_,hk,rfl,?_⟩;rw[dif_neg (fun hh=> ?_)]
  ·exact .bn _ _ (by simp[hl]) fun i v x h1 h2=>hv i v x h1 (by simpa using h2)
  ·have:vs.length=1:=by rw[<- hl];simpa using hh
   obtain⟨v,rfl⟩:=List.length_eq_one_iff.1 this;exact hne v rfl
theorem rN: ∀(l:List SV) (i t:Nat),Env.get (gh i l) t=if i<=t then l.getD (t-i) .undef else .undef
 | [],i,t=>by simp[gh,Env.get]
 |v::r,i,t=>by
  unfold gh Env.get;rcases bO i t with⟨h,h'⟩|⟨h,h'⟩<;>rw[h]
  ·subst h';simp
  ·simp only[cond_false]
   rw[rN r (i+1) t];by_cases hle:i<=t
   ·rw[if_pos hle,if_pos (by omega)]
    have:t-i=(t-(i+1))+1:=by omega
    rw[this];simp
   ·rw[if_neg hle,if_neg (by omega)]
theorem mT{P:Program}{Γ:bR}{Λ:kB}(gd:Γ.Ok P)(oT: ∀b Q e h,Λ b Q e h->dR P b Q e h){f:FuncId}{fn:Func}{code:Code}{ac:bK}{rs:List RV}{args:List SV}{h:Heap}{R:bu->Heap->Prop}(hm:P.follows .mixedOrders=true)(hf:P.funcs[f]? =some fn)(hb:fn.body=some code)
  (ho:fh ac=true)(hc:erase ac=cB P fn.ntmps code)(Gu:pX P fn.results.toList=some rs)(hn:Nat.ble args.length fn.ntmps=true)(hp:oZ P Γ Λ ac (wP rs R) (gh 0 args) h):aC P f args h R:=by
 refine⟨fun c w xs hr hs hv=> ?_⟩;have hn:=Nat.le_of_ble_eq_true hn;refine calls_of_wp hf hb (wp_mono (dX (n:=fn.ntmps) gd oT hm code ac _ _ h ho hc hp c w {tmps:=xs++Array.replicate (fn.ntmps-xs.size) undef,defers:=[]} hr (fun t=> ?_) (by simp;omega)) fun ex a' w' hpost=> ?_)
 ·rw[rN,if_pos (Nat.zero_le _),Nat.sub_zero]
  by_cases ht:t<args.length
  ·have h1:args[t]? =some args[t]:=List.getElem?_eq_getElem ht
   have h2:xs[t]? =some xs[t]:=Array.getElem?_eq_getElem (by omega);have:=hv t _ _ h1 h2;have e1:args.getD t .undef=args[t]:=by simp[List.getD,h1]
   have e2:(xs++Array.replicate (fn.ntmps-xs.size) undef).getD t undef=xs[t]:=by
    rw[Array.getD_eq_getD_getElem?,Array.getElem?_append_left (by omega),h2];rfl
   rw[e1,e2];exact this
  ·have e1:args.getD t .undef= .undef:=by simp[List.getD,List.getElem?_eq_none (Nat.le_of_not_lt ht)]
   rw[e1];exact .undef
 ·obtain⟨c',h',e',xx,hq,hr',hx',he',hn',hd',hex⟩:=hpost
  have fin:(tS rs e' h' fun vs=>match vs with|[v]=>R (.ret v) h'|vs=>R (.ret (.bn vs)) h')->a'.defers=[]/\ ∃v,(results fn a'.tmps).run P w'= .ok v w'/\ ∃c' h' r,R r h'/\bT c' h' w'/\Ext c h w c' h' w'/\match r with
   | .ret u=> ∃x,Ending.returned v= .returned x/\VR c' h' w' u x
   | .eY u=> ∃x,Ending.returned v= .panicked [{v:=x,recovered:=false}]/\VR c' h' w' u x:=fun hq=>by
   obtain⟨v,x,hR,hrun,mQ⟩:=mC (P:=P) (fn:=fn) hr' he' Gu hq;exact⟨hd',x,hrun,c',h',.ret v,hR,hr',hx',x,rfl,mQ⟩
  cases ex with
  |normal=>cases xx<;>first|exact hex.elim|exact fin hq
  |exit i=>cases xx<;>first|exact hex.elim|exact hq.elim
  |goto l=>cases xx<;>exact hex.elim
  |ret=>cases xx<;>first|exact hex.elim|exact fin hq
  |panic ch=>
   cases xx<;>try exact hex.elim
   obtain⟨x,rfl,mQ⟩:=hex;exact⟨hd',c',h',.eY _,hq,hr',hx',x,rfl,mQ⟩
  |outgrown=>cases xx<;>exact hex.elim
theorem AJ{P:Program}{f:FuncId}{fn:Func}{code:Code}{ac:bK}{rs:List RV}{args:List SV}{h:Heap}{R:bu->Heap->Prop}(hm:P.follows .mixedOrders=true)(hf:P.funcs[f]? =some fn)(hb:fn.body=some code)
  (ho:fh ac=true)(hc:erase ac=cB P fn.ntmps code)(Gu:pX P fn.results.toList=some rs)(hn:Nat.ble args.length fn.ntmps=true)(hp:D9 P ac (wP rs R) (gh 0 args) h):aC P f args h R:=
 mT (Γ:=bz P) (Λ:=dR P) r9 (fun _ _ _ _ h=>h) hm hf hb ho hc Gu hn hp
theorem aC.mono{P:Program}{f:FuncId}{args:List SV}{h:Heap}{R R':bu->Heap->Prop}(hc:aC P f args h R)(hR: ∀r h',R r h'->R' r h'):aC P f args h R':=
 ⟨fun c w xs hr hs hv=>(hc.calls c w xs hr hs hv).mono fun _ _ ⟨c',h',r,hk,rest⟩=>⟨c',h',r,hR r h' hk,rest⟩⟩
end Ab
