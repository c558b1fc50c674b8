/- Parts of the proof of PParserBlanks, one behind the other, with short names. -/
import Derived.Test.YtbjifmbemdhndaaGreatDoorZ26
set_option linter.unusedVariables false
set_option linter.unusedSimpArgs false
namespace Ab
open Go
def MC(ks:List Nat)(n:Nat)(Q:cQ->Env->Heap->Prop)(I:Env->Heap->Prop):cQ->Env->Heap->Prop
 | .normal,e,h=> ∃(S:Nat->Bool) (e1:Env) (l1:List (Nat×aG)),IW ⟨h.dB,ou S h.l⟩ e e1/\pU ⟨h.dB,ou S h.l⟩ (ia S h.l) l1/\Ia ks n e1 ⟨h.dB,l1⟩ I
 | .exit i,e,h=> ∃(S:Nat->Bool) (e1:Env) (l1:List (Nat×aG)),IW ⟨h.dB,ou S h.l⟩ e e1/\pU ⟨h.dB,ou S h.l⟩ (ia S h.l) l1/\Q (.exit i) e1 ⟨h.dB,l1⟩
 |x,e,h=>Q x e h
theorem Jy{P:Program}{b:bW}{Q:cQ->Env->Heap->Prop}(J:Nat->Env->Heap->Prop)
  (hJ: ∀m e h,J m e h-> ∃N K,h.dB<=N/\(∀ e' h',K e' h'-> ∃m',m'<m/\J m' e' h')/\Gk P b (MC (Env.keys e) N Q K) e h){m:Nat}{e:Env}{h:Heap}(h0:J m e h):fR P b Q e h:=by
 refine⟨fun n code pG pH hc c w a hr he hn=> ?_⟩
 let I:Nat->Act->World->Prop:=fun m' a' w'=> ∃c' e' h',J m' e' h'/\cF c' h' w'/\Ext c h w c' h' w'/\ER c' h' w' e' a'.tmps/\a'.tmps.size=n/\a'.defers=a.defers
 have fX: ∀a' w',(∃ m',I m' a' w')-> ∃m',I m' a' w'/\ ∀n6,I n6 a' w'->m'<=n6:=by
  intro a' w' ⟨m',hm'⟩;refine Classical.byContradiction fun hno=> ?_
  have: ∀k,∀n6,n6<=k-> ¬I n6 a' w':=by
   intro k
   induction k with
   |zero=>intro n6 hk hI;exact hno ⟨n6,hI,fun m3 _=>by omega⟩
   |succ k ih=>
    intro n6 hk hI;refine hno ⟨n6,hI,fun m3 h3=> ?_⟩;rcases Nat.lt_or_ge k m3 with h|h
    ·omega
    ·exact absurd h3 (ih m3 h)
  exact this m' m' (Nat.le_refl _) hm'
 classical
 let μ:Act->World->Nat:=fun a' w'=>if hh: ∃m',I m' a' w' then Classical.choose (fX a' w' hh)else 0
 have Ie: ∀a' w' m',I m' a' w'->I (μ a' w') a' w'/\μ a' w'<=m':=by
  intro a' w' m' hm';have hh: ∃m',I m' a' w':=⟨m',hm'⟩;have hs:=Classical.choose_spec (fX a' w' hh);have e:μ a' w'=Classical.choose (fX a' w' hh):=by simp only[μ];rw[dif_pos hh]
  rw[e];exact⟨hs.1,hs.2 m' hm'⟩
 refine wp_loop (fun a' w'=> ∃m',I m' a' w') μ ⟨m,c,e,h,h0,hr,.refl,he,hn,rfl⟩ fun a1 w1 hI=> ?_
 obtain⟨m1,Ny⟩:=hI;obtain⟨⟨c1,e1,h1,hj,oM,hx1,Gc,vR,hd1⟩,_⟩:=Ie a1 w1 m1 Ny;obtain⟨N,K,hN,hK,Ii⟩:=hJ _ e1 h1 hj;have hb:=lu (n:=n) pG code b _ e1 h1 pH hc Ii c1 w1 a1 oM Gc vR;refine wp_mono hb fun ex a2 w2 hpost=> ?_
 obtain⟨c2,h2,e2,xx,hq,iO,hx2,ku,hn2,mc,hex⟩:=hpost;cases ex with
 |normal=>
  cases xx<;>try exact hex.elim
  obtain⟨S,e4,l4,g1,g2,hq⟩:=hq;obtain⟨RZ,R1,R2⟩:=sy iO ku g1 g2;obtain⟨e3,h3,Nz,Ki,Ig,hx3⟩:=pF (ks:=Env.keys e1) (k:=K) hq RZ R1 (hx2.trans oM R2) hN;obtain⟨m3,hlt,Kh⟩:=hK _ _ Nz;simp only[Exit.then];have Fm:I m3 a2 w2:=⟨_,e3,h3,Kh,Ki,hx1.trans hr hx3,Ig,hn2,mc.trans hd1⟩;exact⟨⟨m3,Fm⟩,Nat.lt_of_le_of_lt (Ie a2 w2 m3 Fm).2 hlt⟩
 |exit i=>
  cases xx<;>try exact hex.elim
  obtain⟨S,e4,l4,g1,g2,hq⟩:=hq;obtain⟨RZ,R1,R2⟩:=sy iO ku g1 g2;exact⟨_,_,e4,_,hq,RZ,hx1.trans hr (hx2.trans oM R2),R1,hn2,mc.trans hd1,hex⟩
 |goto l=>cases xx<;>exact hex.elim
 |ret=>cases xx<;>first|exact hex.elim|exact⟨c2,h2,e2,_,hq,iO,hx1.trans hr hx2,ku,hn2,mc.trans hd1,hex⟩
 |panic ch=>cases xx<;>first|exact hex.elim|exact⟨c2,h2,e2,_,hq,iO,hx1.trans hr hx2,ku,hn2,mc.trans hd1,hex⟩
 |outgrown=>cases xx<;>exact hex.elim
theorem DX{P:Program}{b:bW}{Q:cQ->Env->Heap->Prop}{σ:Type}(env:σ->Env)(hp:σ->Heap)(μ:σ->Nat)(N:σ->Nat)(hN: ∀s,(hp s).dB<=N s)
  (step: ∀s,Gk P b (MC (Env.keys (env s)) (N s) Q (fun e' h'=> ∃s',μ s'<μ s/\e'=env s'/\h'=hp s')) (env s) (hp s))(s:σ):fR P b Q (env s) (hp s):=
 Jy (fun m e h=> ∃s,μ s=m/\e=env s/\h=hp s) (fun m e h ⟨s,hm,he,hh⟩=>by
  subst hm;subst he;subst hh
  exact⟨N s,_,hN s,fun e' h' ⟨s',hlt,he,hh⟩=>⟨μ s',hlt,s',rfl,he,hh⟩,step s⟩) ⟨s,rfl,rfl,rfl⟩
end Ab
