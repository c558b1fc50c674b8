/- Parts of the proof of PParserDepth, one behind the other, with short names. -/
import Derived.Test.YtbjifmbemdhndaaGreatDoorY27
import Derived.Test.YtbjifmbemdhndaaGreatDoorY26
import Derived.Test.YtbjifmbemdhndaaGreatDoorY21
set_option linter.unusedVariables false
set_option linter.unusedSimpArgs false
namespace Ab
open Go
def M8(A:Heap)(e e1:Env):Prop:= ∀t,Env.get e1 t=Env.get e t\/cA A (Env.get e t) (Env.get e1 t)
inductive yh(A:Heap):aA->aA->Prop
 |same (o:aA):yh A o o
 |vec {g sz:Nat} {es SR:List SV} {sk:Sk} (hl:es.length=SR.length) (h: ∀(i:Nat) (v v1:SV),es[i]? =some v->SR[i]? =some v1->v1=v\/cA A v v1):yh A (.vec g sz es sk) (.vec g sz SR sk)
inductive sX(A:Heap):List (Nat×aA)->List (Nat×aA)->Prop
 |nil:sX A [] []
 |cons {i:Nat} {o o1:aA} {l l1:List (Nat×aA)} (h:yh A o o1) (r:sX A l l1):sX A ((i,o)::l) ((i,o1)::l1)
 |drop {i:Nat} {o:aA} {l l1:List (Nat×aA)} (hn:aG l1 i=none) (r:sX A l l1):sX A ((i,o)::l) l1
theorem yh.gen{A:Heap}{o o1:aA}(h:yh A o o1):o.gen=o1.gen/\o.sz=o1.sz:=by cases h<;>exact⟨rfl,rfl⟩
theorem sX.refl{A:Heap}: ∀ {l:List (Nat×aA)},sX A l l
 | []=> .nil
 |(i,o)::r=> .cons (.same o) sX.refl
theorem sX.at_{A:Heap}{l l1:List (Nat×aA)}(h:sX A l l1): ∀ {j:Nat} {o1:aA},aG l1 j=some o1-> ∃o,aG l j=some o/\yh A o o1:=by
 induction h with
 |nil=>intro j o1 h;cases h
 | @cons i o o1 l l1 h r ih=>
   intro j o2 h2;by_cases hj:i=j
   ·subst hj
    rw[iB]at h2;cases h2
    exact⟨o,iB,h⟩
   ·rw[iC hj]at h2
    rw[iC hj];exact ih h2
 | @drop i o l l1 hn r ih=>
   intro j o2 h2;by_cases hj:i=j
   ·subst hj;rw[hn]at h2;cases h2
   ·rw[iC hj]
    exact ih h2
theorem eH{A:Heap}{g sz:Nat}{v v1:SV}{sk:Sk}(h:cA A v v1):yh A (.vec g sz [v] sk) (.vec g sz [v1] sk):=
 .vec rfl fun i u u1 a b=>by
  cases i with
  |zero=>simp at a b;subst a;subst b;exact .inr h
  |succ i=>simp at a
theorem Hv{c:Cx}{h:Heap}{w:World}{e e1:Env}{tmps:Array Value}{S:Nat->Bool}{l1:List (Nat×aA)}(hr:bP c h w)(he:ER c h w e tmps)
  (h1:M8 ⟨h.dA,qX S h.l⟩ e e1)(h2:sX ⟨h.dA,qX S h.l⟩ (iQ S h.l) l1):bP (ld S c h) ⟨h.dA,l1⟩ w/\ER (ld S c h) ⟨h.dA,l1⟩ w e1 tmps/\Ext c h w (ld S c h) ⟨h.dA,l1⟩ w:=by
 have qh:=hr.ld S;have EX: ∀ {j:Nat} {o1:aA},aG l1 j=some o1-> ∃o,aG (iQ S h.l) j=some o/\yh ⟨h.dA,qX S h.l⟩ o o1:=fun hh=>h2.at_ hh
 have hx1:Ext (ld S c h) ⟨h.dA,iQ S h.l⟩ w (ld S c h) ⟨h.dA,l1⟩ w:=⟨rfl,rfl,rfl,Nat.le_refl _,fun _ _ _=>rfl,fun _ _=>rfl,fun _ h=>h,fun _ h=> .inl h,Nat.le_refl _,
  fun j o' _ ho'=>by
   obtain⟨o,e1,e2⟩:=EX ho';exact⟨o,e1,Nat.le_of_eq e2.gen.1,e2.gen.2,fun _=>rfl⟩,
  fun j o' ho'=>by
   obtain⟨o,e1,_⟩:=EX ho';exact .inr ⟨o,e1,rfl⟩⟩
 have hx:Ext c h w (ld S c h) ⟨h.dA,l1⟩ w:=(Ext.ld S).trans hr hx1;refine⟨⟨fun j o ho=> ?_,fun j o ho=> ?_,fun j k o p ho hp heq=> ?_,fun j o ho=> ?_,qh.im,qh.cV⟩,fun t=> ?_,hx⟩
 ·obtain⟨o',e1,_⟩:=EX ho
  exact qh.lt j o' e1
 ·obtain⟨o',e1,e2⟩:=EX ho
  cases e2 with
  |same=>exact(qh.obj j o e1).mono qh hx1 rfl
  |vec hl hh=>
   have gS:=hr.obj j _ (gM S e1).1;cases gS with
   |vec _ _ _ _ C ty fz hw hle heq hty hc hf hcell=>
    refine .vec _ _ _ _ C ty fz hw (hl▸hle) (fun hs=>hl▸heq hs) hty (fun v hv=> ?_) hf fun i k e v x g1 g2 g3=> ?_
    ·obtain⟨i,hi⟩:=List.mem_iff_getElem?.1 hv
     obtain⟨u,hu⟩:=iD hl hi;rcases hh i u v hu hi with rfl|hd
     ·exact hc _ (List.mem_of_getElem? hu)
     ·rw[hd.cells.1]
      exact hc u (List.mem_of_getElem? hu)
    ·obtain⟨u,hu⟩:=iD hl g1
     rcases hh i u e hu g1 with rfl|hd
     ·exact(hcell i k _ v x hu g2 g3).mono hr hx
     ·obtain⟨d,ku⟩:=iD hd.cells.1.symm g2
      exact .pure ((hd.cells.2 k d v ku g2).ld S hr (hcell i k u d x hu ku g3))
 ·obtain⟨o',e1,_⟩:=EX ho
  obtain⟨p',e2,_⟩:=EX hp;exact qh.inj j k o' p' e1 e2 heq
 ·obtain⟨o',e1,_⟩:=EX ho
  exact qh.apart j o' e1
 ·rcases h1 t with h|h
  ·rw[h];exact(he t).mono hr hx
  ·exact .pure (h.ld S hr (he t))
def KS(ks:List Nat)(n:Nat)(Q:ck->Env->Heap->Prop)(I:Env->Heap->Prop):ck->Env->Heap->Prop
 | .normal,e,h=> ∃(S:Nat->Bool) (e1:Env) (l1:List (Nat×aA)),M8 ⟨h.dA,qX S h.l⟩ e e1/\sX ⟨h.dA,qX S h.l⟩ (iQ S h.l) l1/\IN ks n e1 ⟨h.dA,l1⟩ I
 |x,e,h=>Q x e h
theorem Hw{P:Program}{b:bD}{Q:ck->Env->Heap->Prop}(J:Nat->Env->Heap->Prop)
  (hJ: ∀m e h,J m e h-> ∃N K,h.dA<=N/\(∀ e' h',K e' h'-> ∃m',m'<m/\J m' e' h')/\Gw P b (KS (Env.keys e) N Q K) e h){m:Nat}{e:Env}{h:Heap}(h0:J m e h):dx P b Q e h:=by
 refine⟨fun n code oG oH hc c w a hr he hn=> ?_⟩
 let I:Nat->Act->World->Prop:=fun m' a' w'=> ∃c' e' h',J m' e' h'/\bP c' h' w'/\Ext c h w c' h' w'/\ER c' h' w' e' a'.tmps/\a'.tmps.size=n/\a'.defers=a.defers
 have j5: ∀a' w',(∃ m',I m' a' w')-> ∃m',I m' a' w'/\ ∀qw,I qw a' w'->m'<=qw:=by
  intro a' w' ⟨m',hm'⟩;refine Classical.byContradiction fun hno=> ?_
  have: ∀k,∀qw,qw<=k-> ¬I qw a' w':=by
   intro k
   induction k with
   |zero=>intro qw hk hI;exact hno ⟨qw,hI,fun m3 _=>by omega⟩
   |succ k ih=>
    intro qw hk hI;refine hno ⟨qw,hI,fun m3 h3=> ?_⟩;rcases Nat.lt_or_ge k m3 with h|h
    ·omega
    ·exact absurd h3 (ih m3 h)
  exact this m' m' (Nat.le_refl _) hm'
 classical
 let μ:Act->World->Nat:=fun a' w'=>if hh: ∃m',I m' a' w' then Classical.choose (j5 a' w' hh)else 0
 have Kl: ∀a' w' m',I m' a' w'->I (μ a' w') a' w'/\μ a' w'<=m':=by
  intro a' w' m' hm';have hh: ∃m',I m' a' w':=⟨m',hm'⟩;have hs:=Classical.choose_spec (j5 a' w' hh);have e:μ a' w'=Classical.choose (j5 a' w' hh):=by simp only[μ];rw[dif_pos hh]
  rw[e];exact⟨hs.1,hs.2 m' hm'⟩
 refine wp_loop (fun a' w'=> ∃m',I m' a' w') μ ⟨m,c,e,h,h0,hr,.refl,he,hn,rfl⟩ fun a1 w1 hI=> ?_
 obtain⟨m1,Pv⟩:=hI;obtain⟨⟨c1,e1,h1,hj,qh,hx1,IF,Ga,hd1⟩,_⟩:=Kl a1 w1 m1 Pv;obtain⟨N,K,hN,hK,L7⟩:=hJ _ e1 h1 hj;have hb:=lU (n:=n) oG code b _ e1 h1 oH hc L7 c1 w1 a1 qh IF Ga;refine wp_mono hb fun ex a2 w2 hpost=> ?_
 obtain⟨c2,h2,e2,xx,hq,iw,hx2,jq,hn2,nq,hex⟩:=hpost;cases ex with
 |normal=>
  cases xx<;>try exact hex.elim
  obtain⟨S,e4,l4,g1,g2,hq⟩:=hq;obtain⟨V1,V2,V3⟩:=Hv iw jq g1 g2;obtain⟨e3,h3,Pw,L6,IS,hx3⟩:=qv (ks:=Env.keys e1) (k:=K) hq V1 V2 (hx2.trans qh V3) hN;obtain⟨m3,hlt,IQ⟩:=hK _ _ Pw;simp only[Exit.then];have Km:I m3 a2 w2:=⟨_,e3,h3,IQ,L6,hx1.trans hr hx3,IS,hn2,nq.trans hd1⟩;exact⟨⟨m3,Km⟩,Nat.lt_of_le_of_lt (Kl a2 w2 m3 Km).2 hlt⟩
 |exit i=>cases xx<;>first|exact hex.elim|exact⟨c2,h2,e2,_,hq,iw,hx1.trans hr hx2,jq,hn2,nq.trans hd1,hex⟩
 |goto l=>cases xx<;>exact hex.elim
 |ret=>cases xx<;>first|exact hex.elim|exact⟨c2,h2,e2,_,hq,iw,hx1.trans hr hx2,jq,hn2,nq.trans hd1,hex⟩
 |panic ch=>cases xx<;>first|exact hex.elim|exact⟨c2,h2,e2,_,hq,iw,hx1.trans hr hx2,jq,hn2,nq.trans hd1,hex⟩
 |outgrown=>cases xx<;>exact hex.elim
theorem ox{P:Program}{b:bD}{Q:ck->Env->Heap->Prop}{σ:Type}(env:σ->Env)(hp:σ->Heap)(μ:σ->Nat)(N:σ->Nat)(hN: ∀s,(hp s).dA<=N s)
  (step: ∀s,Gw P b (KS (Env.keys (env s)) (N s) Q (fun e' h'=> ∃s',μ s'<μ s/\e'=env s'/\h'=hp s')) (env s) (hp s))(s:σ):dx P b Q (env s) (hp s):=
 Hw (fun m e h=> ∃s,μ s=m/\e=env s/\h=hp s) (fun m e h ⟨s,hm,he,hh⟩=>by
  subst hm;subst he;subst hh
  exact⟨N s,_,hN s,fun e' h' ⟨s',hlt,he,hh⟩=>⟨μ s',hlt,s',rfl,he,hh⟩,step s⟩) ⟨s,rfl,rfl,rfl⟩
theorem cU{A:Heap}{e:Env}:M8 A e e:=fun t=> .inl rfl
end Ab
namespace Go.Proofs.YtbjifmbemdhndaaGreatDoor
open Ab Go.RowKit
set_option maxRecDepth 100000
@[reducible] def gF (l:List SV):SV:= .eR 9 l.length fun i=>l.getD i .undef
mutual
def kq:Ex->SV
 | .mk op v tb nm slot kd args=> .agg [.int .u8 op,.int .u8 v.k,.int .i64 v.i,.str v.s,.str tb,.str nm,.int .i64 slot,.int .u8 kd,gF (eP args)]
def eP:List Ex->List SV
 | []=>[]
 |x::r=>kq x::eP r
end
theorem Hx(l:List SV):bA (gF l):= .eR _ _ _
theorem aq(x:Ex):bA (kq x):=by
 cases x
 rw[kq];refine .agg ?_;simp only[List.mem_cons,List.not_mem_nil,or_false];rintro _ (rfl|rfl|rfl|rfl|rfl|rfl|rfl|rfl|rfl);all_goals first|exact Hx _|constructor
theorem oy{A:Heap}{i g:Nat}{cap:Option Nat}{v:SV}{x:Ex}{sk:Sk}(ho:A.obj i=some (.vec g 9 [v] sk))(hv:cA A v (kq x)):cA A (.sl i g 9 0 1 cap) (gF (eP [x])):=
 .sl ho (Nat.le_refl 1) fun j u hj hu=>by
  obtain rfl:j=0:=by omega
  simp at hu;subst hu
  exact hv
theorem c9{A:Heap}{i g:Nat}{cap:Option Nat}{v u:SV}{x y:Ex}{sk:Sk}(ho:A.obj i=some (.vec g 9 [v,u] sk))(hv:cA A v (kq x))(hu:cA A u (kq y)):cA A (.sl i g 9 0 2 cap) (gF (eP [x,y])):=
 .sl ho (Nat.le_refl 2) fun j d hj hd=>by
  match j,hj with
  |0,_=>simp at hd;subst hd;exact hv
  |1,_=>simp at hd;subst hd;exact hu
theorem ki{A:Heap}:cA A .ak (gF (eP [])):= .nil
theorem mO{A:Heap}{op k n slot kd:Int}{t tb nm:List UInt8}{v:SV}{args:List Ex}(hv:cA A v (gF (eP args))):cA A (.agg [.int .u8 op,.int .u8 k,.int .i64 n,.str t,.str tb,.str nm,.int .i64 slot,.int .u8 kd,v]) (kq (.mk op ⟨k,n,t⟩ tb nm slot kd args)):=by
 rw[kq];refine .agg rfl fun i u u' h1 h2=> ?_
 match i with
 |0=>simp at h1 h2;subst h1;subst h2;exact .lit (.int _ _)
 |1=>simp at h1 h2;subst h1;subst h2;exact .lit (.int _ _)
 |2=>simp at h1 h2;subst h1;subst h2;exact .lit (.int _ _)
 |3=>simp at h1 h2;subst h1;subst h2;exact .lit (.str _)
 |4=>simp at h1 h2;subst h1;subst h2;exact .lit (.str _)
 |5=>simp at h1 h2;subst h1;subst h2;exact .lit (.str _)
 |6=>simp at h1 h2;subst h1;subst h2;exact .lit (.int _ _)
 |7=>simp at h1 h2;subst h1;subst h2;exact .lit (.int _ _)
 |8=>simp at h1 h2;subst h1;subst h2;exact hv
 |i+9=>simp at h1
theorem bX{A:Heap}{op:Int}{v:SV}{args:List Ex}(hv:cA A v (gF (eP args))):cA A (.agg [.int .u8 op,.int .u8 0,.int .i64 0,.str [],.str [],.str [],.int .i64 0,.int .u8 0,v]) (kq (kz op args)):=mO hv
@[reducible] def gQ (l:List TP) (i m e:Nat):aA:= .vec 0 4 [.agg [Ao l,.int .i64 (i:Nat),.int .i64 (m:Nat),.int .i64 (e:Nat)]] ⟨false,some 69⟩
theorem ai(l:List TP)(i m e:Nat):Ji (gQ l i m e):=⟨rfl,fun v hv=>by
 simp only[List.mem_singleton]at hv;subst hv;refine .agg ?_;simp only[List.mem_cons,List.not_mem_nil,or_false];rintro _ (rfl|rfl|rfl|rfl)<;>constructor⟩
@[reducible] def aX (l:List TP):ke:=fun i=>(l.getD i aH).1
def eN(l:List TP)(m i:Nat):Nat:=if i<l.length then(l.getD i aH).2 else m
@[reducible] def rR (e:Int) (at_:Nat):SV:= .iface 33 (.agg [.int .i64 e,.int .i64 at_])
theorem av(e:Int)(a:Nat):bA (rR e a):= .iface _ (.agg (by simp only[List.mem_cons,List.not_mem_nil,or_false];rintro _ (rfl|rfl)<;>constructor))
theorem yj{l:List TP}{i:Nat}(h: ¬i<l.length):l.getD i aH=aH:=by simp[List.getD,List.getElem?_eq_none (Nat.le_of_not_lt h)]
theorem aV: ∀x∈([]:List SV),bA x:=fun x h=>by simp at h
end Go.Proofs.YtbjifmbemdhndaaGreatDoor
namespace Go.Proofs.YtbjifmbemdhndaaGreatDoor
open Ab Go.RowKit
set_option maxRecDepth 100000
set_option maxHeartbeats 4000000
attribute [local irreducible] aO bx
section
variable {l:List TP} {m e:Nat}
theorem iV(i:Nat):dj Tryz.prog 119 [] (gQ l i m e) (.ret (gm (l.getD i aH))) (gQ l i m e):=by
 refine⟨aV,ai ..,ai ..,l5 _,Hh.call mixed rfl ?_⟩;by_cases h:i<l.length
 ·have hd:decide ((i:Int)<(l.length:Int))=true:=decide_eq_true (by omega)
  iterate 12 all_goals ((try conv=>whnf);try first|(with_reducible first|refine zY ?_|refine zN ?_|refine zT ?_|refine br (fun _=> ?_) (fun _=> ?_)|refine⟨rfl,?_⟩))
  exact cO (.lit (l5 _)) rfl
 ·have hd:decide ((i:Int)<(l.length:Int))=false:=decide_eq_false (by omega)
  rw[yj h];iterate 12 all_goals ((try conv=>whnf);try first|(with_reducible first|refine zY ?_|refine zN ?_|refine zT ?_|refine br (fun _=> ?_) (fun _=> ?_)|refine⟨rfl,?_⟩))
  exact cO (.lit (l5 aH)) rfl
theorem Fs(i:Nat):dj Tryz.prog 121 [] (gQ l i m e) (.ret (.int .i64 (eN l m i:Nat))) (gQ l i m e):=by
 refine⟨aV,ai ..,ai ..,.int _ _,MF.call mixed rfl ?_⟩;by_cases h:i<l.length
 ·have hd:decide ((i:Int)<(l.length:Int))=true:=decide_eq_true (by omega)
  rw[eN,if_pos h];iterate 12 all_goals ((try conv=>whnf);try first|(with_reducible first|refine zY ?_|refine zN ?_|refine zT ?_|refine br (fun _=> ?_) (fun _=> ?_)|refine⟨rfl,?_⟩))
  exact cO (.lit (.int _ _)) rfl
 ·have hd:decide ((i:Int)<(l.length:Int))=false:=decide_eq_false (by omega)
  rw[eN,if_neg h];iterate 12 all_goals ((try conv=>whnf);try first|(with_reducible first|refine zY ?_|refine zN ?_|refine zT ?_|refine br (fun _=> ?_) (fun _=> ?_)|refine⟨rfl,?_⟩))
  exact cO (.lit (.int _ _)) rfl
theorem ij(er:Int)(i:Nat):dj Tryz.prog 62 [.int .i64 er] (gQ l i m e) (.cZ (rR er (eN l m i))) (gQ l i m e):=by
 refine⟨bK (.int _ _),ai ..,ai ..,av _ _,Qi.call mixed rfl ?_⟩;have c:=Fs (l:=l) (m:=m) (e:=e) i;iterate 8 all_goals ((try conv=>whnf);try first|(with_reducible first|refine zY ?_|refine zN ?_|refine zT ?_|refine br (fun _=> ?_) (fun _=> ?_)|refine⟨rfl,?_⟩)|(refine c.call rfl ?_))
 exact cI (av _ _)
theorem yl(s:List UInt8)(i:Nat):dj Tryz.prog 81 [.str s] (gQ l i m e) (.ret (.bool (fM (aX l) s i))) (gQ l i m e):=by
 refine⟨bK (.str _),ai ..,ai ..,.bool _,KQ.call mixed rfl ?_⟩;have c:=iV (l:=l) (m:=m) (e:=e) i;iterate 20 all_goals ((try conv=>whnf);try first|(with_reducible first|refine zY ?_|refine zN ?_|refine zT ?_|refine br (fun _=> ?_) (fun _=> ?_)|refine⟨rfl,?_⟩)|(refine c.call rfl ?_))
 all_goals
  refine cO ?_ rfl;rw[show fM (aX l) s i=(((l.getD i aH).1.k==1||(l.getD i aH).1.k==4)&&(l.getD i aH).1.t==s) from rfl];simp only[*,Bool.true_or,Bool.or_true,Bool.false_or,Bool.or_self,Bool.true_and,Bool.false_and];exact .lit (.bool _)
end
end Go.Proofs.YtbjifmbemdhndaaGreatDoor
namespace Go.Proofs.YtbjifmbemdhndaaGreatDoor
open Ab Go.RowKit
set_option maxRecDepth 100000
set_option maxHeartbeats 4000000
def tu(m:Int):Bool:=(decide (97<=jc .or .u8 m 32)&&decide (jc .or .u8 m 32<=122))||m==95
theorem Cl(c:UInt8):tu (c.toNat:Int)=bG c:=by
 have: ∀n:Fin 256,tu ((UInt8.ofNat n.val).toNat:Int)=bG (UInt8.ofNat n.val):=by decide +kernel
 have h:=this ⟨c.toNat,UInt8.toNat_lt c⟩;simpa using h
theorem Cm(m:Int):au Tryz.prog 74 [.int .u8 m] (.bool (tu m)):=by
 refine bu (bK (.int _ _)) (KK.call mixed rfl ?_);iterate 16 all_goals ((try conv=>whnf);try first|(with_reducible first|refine zY ?_|refine zN ?_|refine zT ?_|refine br (fun _=> ?_) (fun _=> ?_)|refine⟨rfl,?_⟩))
 all_goals refine leaf ?_ (.bool _)
 all_goals (simp only[tu];simp_all;try omega)
theorem uF(c:UInt8):au Tryz.prog 74 [.int .u8 (c.toNat:Int)] (.bool (bG c)):=by
 rw[<- Cl];exact Cm _
def Jj(m:Int):Bool:=decide (48<=m)&&decide (m<=57)
theorem Jk(c:UInt8):Jj (c.toNat:Int)=isDigit c:=by
 have: ∀n:Fin 256,Jj ((UInt8.ofNat n.val).toNat:Int)=isDigit (UInt8.ofNat n.val):=by decide +kernel
 have h:=this ⟨c.toNat,UInt8.toNat_lt c⟩;simpa using h
theorem Ft(m:Int):au Tryz.prog 76 [.int .u8 m] (.bool (Jj m)):=by
 refine bu (bK (.int _ _)) (KM.call mixed rfl ?_);iterate 16 all_goals ((try conv=>whnf);try first|(with_reducible first|refine zY ?_|refine zN ?_|refine zT ?_|refine br (fun _=> ?_) (fun _=> ?_)|refine⟨rfl,?_⟩))
 all_goals refine leaf ?_ (.bool _)
 all_goals (simp only[Jj];simp_all;try omega)
theorem rS(c:UInt8):au Tryz.prog 76 [.int .u8 (c.toNat:Int)] (.bool (isDigit c)):=by
 rw[<- Jk];exact Ft _
def dL(c:UInt8):Bool:=bG c||isDigit c
theorem Au(s:List UInt8):mV s=if 32<(s.takeWhile dL).length then .err 3 else .ok ⟨1,(s.takeWhile dL).map iR,0⟩ (s.takeWhile dL).length:=rfl
theorem M9:Lib.lowerB=iR:=by
 funext c;have: ∀n:Fin 256,Lib.lowerB (UInt8.ofNat n.val)=iR (UInt8.ofNat n.val):=by decide +kernel
 have h:=this ⟨c.toNat,UInt8.toNat_lt c⟩;simpa using h
theorem Av: ∀c:UInt8,dL c=true->c.toNat<128:=by
 intro c hc;have: ∀n:Fin 256,dL (UInt8.ofNat n.val)=true->(UInt8.ofNat n.val).toNat<128:=by decide +kernel
 have h:=this ⟨c.toNat,UInt8.toNat_lt c⟩;simp only[UInt8.ofNat_toNat]at h;exact h hc
theorem Hy{s:List UInt8}(hs:s.length<=100000):au Tryz.prog 75 [.str s] (vB (mV s)):=by
 refine bu (bK (.str _)) (KL.call mixed rfl ?_);have hle:=gO (p:=dL) s;iterate 4 all_goals ((try conv=>whnf);try first|(with_reducible first|refine zY ?_|refine zN ?_|refine zT ?_|refine br (fun _=> ?_) (fun _=> ?_)|refine⟨rfl,?_⟩))
 refine iP (σ:={i:Nat // i<=(s.takeWhile dL).length}) (fun x=>[(0,SV.str s),(2,SV.ref 0 0 0 0),(3,SV.int IntKind.i64 0),(4,SV.int IntKind.i64 0),(5,SV.int IntKind.i64 x.1)])
  (fun _=>⟨1,[(0,.vec 0 4 [gm aH] ⟨false,some 57⟩)]⟩) (fun x=>s.length-x.1) ?_ ⟨0,by omega⟩
 rintro⟨i,hi⟩;dsimp only;have e7:IntKind.i64.wrap ((i:Int)+1)=((i+1:Nat):Int):=bL (by omega);have et:=Int.toNat_natCast i
 have hex:i=(s.takeWhile dL).length->au Tryz.prog 126 [.str (List.take ((i:Int).toNat-Int.toNat 0) (List.drop (Int.toNat 0) s))] (.str ((s.takeWhile dL).map iR)):=fun hW=>by
  have e:List.take ((i:Int).toNat-Int.toNat 0) (List.drop (Int.toNat 0) s)=s.takeWhile dL:=by
   rw[et,show Int.toNat 0=0 from rfl,List.drop_zero,Nat.sub_zero,hW,xS]
  have h:=Am (s:=s.takeWhile dL) (by omega) fun c hc=>Av c (iz hc)
  rw[e,<-M9];exact h
 have Qv:i=(s.takeWhile dL).length->decide ((32:Int)<(i:Int))=true->vB (mV s)=vB (.err 3):=fun hW h=>by
  rw[Au,if_pos (by have:=of_decide_eq_true h;omega)]
 have Qw:i=(s.takeWhile dL).length->decide ((32:Int)<(i:Int))=false->vB (mV s)=vB (.ok ⟨1,(s.takeWhile dL).map iR,0⟩ i):=fun hW h=>by
  rw[Au,if_neg (by have:=of_decide_eq_false h;omega),<-hW]
 by_cases hil:i<s.length
 ·have hd:decide ((i:Int)<(s.length:Int))=true:=decide_eq_true (by omega)
  have ht:=GI hi hil;have hl:=uF (s.getD (i:Int).toNat 0);have hg:=rS (s.getD (i:Int).toNat 0);by_cases hw:dL (s.getD i 0)=true
  ·have hi2:=ht.1 hw
   rw[<- et]at hw;iterate 12 all_goals ((try conv=>whnf);try first|(with_reducible first|refine zY ?_|refine zN ?_|refine zT ?_|refine br (fun _=> ?_) (fun _=> ?_)|refine⟨rfl,?_⟩|refine au.call (hl) ?_|refine au.call (hg) ?_))
   all_goals first
    |exact⟨⟨i+1,hi2⟩,by dsimp only;omega,by rw[e7],rfl⟩
    |(exfalso;simp_all[dL];done)
  ·have hW:i=(s.takeWhile dL).length:=by
    rcases Nat.lt_or_ge i (s.takeWhile dL).length with h|h
    ·exact absurd (ht.2 h) hw
    ·omega
   have cl:=hex hW;rw[<- et]at hw;iterate 20 all_goals ((try conv=>whnf);try first|(with_reducible first|refine zY ?_|refine zN ?_|refine zT ?_|refine br (fun _=> ?_) (fun _=> ?_)|refine⟨rfl,?_⟩|refine au.call (hl) ?_|refine au.call (hg) ?_|refine au.call (cl) ?_))
   all_goals first
    |(refine leaf ?_ (cE _);first|(rw[Qv hW (by assumption)];rfl)|(rw[Qw hW (by assumption)];rfl))
    |(exfalso;simp_all[dL];done)
 ·have hd:decide ((i:Int)<(s.length:Int))=false:=decide_eq_false (by omega)
  have hW:i=(s.takeWhile dL).length:=by omega
  have cl:=hex hW;iterate 20 all_goals ((try conv=>whnf);try first|(with_reducible first|refine zY ?_|refine zN ?_|refine zT ?_|refine br (fun _=> ?_) (fun _=> ?_)|refine⟨rfl,?_⟩|refine au.call (cl) ?_))
  all_goals (refine leaf ?_ (cE _);first|(rw[Qv hW (by assumption)];rfl)|(rw[Qw hW (by assumption)];rfl))
theorem Cn{s:List UInt8}(hs:s.length<=100000)(h0:isDigit (s.getD 0 0)=true)(hne:s≠[]):au Tryz.prog 77 [.str s] (vB (iy s)):=by
 refine bu (bK (.str _)) (KN.call mixed rfl ?_);have hle:=gO (p:=isDigit) s
 have hw0:s.takeWhile isDigit≠[]:=by
  cases s with
  |nil=>exact absurd rfl hne
  |cons a r=>rw[List.takeWhile_cons,if_pos (show isDigit a=true from h0)];simp
 have hp:=Fc hw0 fun c hc=>iz hc
 have Fu:iy s=if 9223372036854775808<numOf (s.takeWhile isDigit)then .err 233 else .ok ⟨2,[],numOf (s.takeWhile isDigit)⟩ (s.takeWhile isDigit).length:=rfl
 iterate 4 all_goals ((try conv=>whnf);try first|(with_reducible first|refine zY ?_|refine zN ?_|refine zT ?_|refine br (fun _=> ?_) (fun _=> ?_)|refine⟨rfl,?_⟩))
 refine iP (σ:={i:Nat // i<=(s.takeWhile isDigit).length}) (fun x=>[(0,SV.str s),(2,SV.ref 0 0 0 0),(3,SV.int IntKind.i64 0),(4,SV.int IntKind.i64 0),(5,SV.int IntKind.i64 x.1)])
  (fun _=>⟨1,[(0,.vec 0 4 [gm aH] ⟨false,some 57⟩)]⟩) (fun x=>s.length-x.1) ?_ ⟨0,by omega⟩
 rintro⟨i,hi⟩;dsimp only;have e7:IntKind.i64.wrap ((i:Int)+1)=((i+1:Nat):Int):=bL (by omega);have et:=Int.toNat_natCast i
 have e:i=(s.takeWhile isDigit).length->List.take ((i:Int).toNat-Int.toNat 0) (List.drop (Int.toNat 0) s)=s.takeWhile isDigit:=fun hW=>by
  rw[et,show Int.toNat 0=0 from rfl,List.drop_zero,Nat.sub_zero,hW,xS]
 have more: ∀hW:i=(s.takeWhile isDigit).length,numOf (s.takeWhile isDigit)<18446744073709551616->au Tryz.prog 127 [.str (List.take ((i:Int).toNat-Int.toNat 0) (List.drop (Int.toNat 0) s)),.int .i64 10,.int .i64 64] (.aN [.int .u64 (numOf (s.takeWhile isDigit):Nat),.de]):=fun hW hlt=>by
  rw[e hW];exact Ht (by omega) (by rw[hp,if_pos hlt])
 have less: ∀hW:i=(s.takeWhile isDigit).length,¬numOf (s.takeWhile isDigit)<18446744073709551616-> ∃t,au Tryz.prog 127 [.str (List.take ((i:Int).toNat-Int.toNat 0) (List.drop (Int.toNat 0) s)),.int .i64 10,.int .i64 64] (.aN [.int .u64 18446744073709551615,.iface t .undef]):=fun hW hlt=>by
  rw[e hW];exact An (by omega) (by rw[hp,if_neg hlt])
 by_cases hil:i<s.length
 ·have hd:decide ((i:Int)<(s.length:Int))=true:=decide_eq_true (by omega)
  have ht:=GI hi hil;have hg:=rS (s.getD (i:Int).toNat 0);by_cases hw:isDigit (s.getD i 0)=true
  ·have hi2:=ht.1 hw
   rw[<- et]at hw;iterate 12 all_goals ((try conv=>whnf);try first|(with_reducible first|refine zY ?_|refine zN ?_|refine zT ?_|refine br (fun _=> ?_) (fun _=> ?_)|refine⟨rfl,?_⟩|refine au.call (hg) ?_))
   exact⟨⟨i+1,hi2⟩,by dsimp only;omega,by rw[e7],rfl⟩
  ·have hW:i=(s.takeWhile isDigit).length:=by
    rcases Nat.lt_or_ge i (s.takeWhile isDigit).length with h|h
    ·exact absurd (ht.2 h) hw
    ·omega
   rw[<- et]at hw;have hw:isDigit (s.getD (i:Int).toNat 0)=false:=by simpa using hw
   by_cases hlt:numOf (s.takeWhile isDigit)<18446744073709551616
   ·have cm:=more hW hlt
    iterate 20 all_goals ((try conv=>whnf);try first|(with_reducible first|refine zY ?_|refine zN ?_|refine zT ?_|refine br (fun _=> ?_) (fun _=> ?_)|refine⟨rfl,?_⟩|refine au.call (hg) ?_|refine au.call (cm) ?_))
    ·have h:=of_decide_eq_true (by assumption:decide ((9223372036854775808:Int)<((numOf (s.takeWhile isDigit):Nat):Int))=true)
     exact leaf (by rw[Fu,if_pos (by omega)];rfl) (cE _)
    ·have h:=of_decide_eq_false (by assumption:decide ((9223372036854775808:Int)<((numOf (s.takeWhile isDigit):Nat):Int))=false)
     exact leaf (by rw[Fu,if_neg (by omega),<-hW];rfl) (cE _)
   ·obtain⟨t,cm⟩:=less hW hlt
    iterate 20 all_goals ((try conv=>whnf);try first|(with_reducible first|refine zY ?_|refine zN ?_|refine zT ?_|refine br (fun _=> ?_) (fun _=> ?_)|refine⟨rfl,?_⟩|refine au.call (hg) ?_|refine au.call (cm) ?_))
    exact leaf (by rw[Fu,if_pos (by omega)];rfl) (cE _)
 ·have hd:decide ((i:Int)<(s.length:Int))=false:=decide_eq_false (by omega)
  have hW:i=(s.takeWhile isDigit).length:=by omega
  by_cases hlt:numOf (s.takeWhile isDigit)<18446744073709551616
  ·have cm:=more hW hlt
   iterate 20 all_goals ((try conv=>whnf);try first|(with_reducible first|refine zY ?_|refine zN ?_|refine zT ?_|refine br (fun _=> ?_) (fun _=> ?_)|refine⟨rfl,?_⟩|refine au.call (cm) ?_))
   ·have h:=of_decide_eq_true (by assumption:decide ((9223372036854775808:Int)<((numOf (s.takeWhile isDigit):Nat):Int))=true)
    exact leaf (by rw[Fu,if_pos (by omega)];rfl) (cE _)
   ·have h:=of_decide_eq_false (by assumption:decide ((9223372036854775808:Int)<((numOf (s.takeWhile isDigit):Nat):Int))=false)
    exact leaf (by rw[Fu,if_neg (by omega),<-hW];rfl) (cE _)
  ·obtain⟨t,cm⟩:=less hW hlt
   iterate 20 all_goals ((try conv=>whnf);try first|(with_reducible first|refine zY ?_|refine zN ?_|refine zT ?_|refine br (fun _=> ?_) (fun _=> ?_)|refine⟨rfl,?_⟩|refine au.call (cm) ?_))
   exact leaf (by rw[Fu,if_pos (by omega)];rfl) (cE _)
end Go.Proofs.YtbjifmbemdhndaaGreatDoor
