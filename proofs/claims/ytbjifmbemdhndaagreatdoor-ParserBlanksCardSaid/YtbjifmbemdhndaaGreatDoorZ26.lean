/- Parts of the proof of PParserBlanks, one behind the other, with short names. -/
import Derived.Test.YtbjifmbemdhndaaGreatDoorZ25
import Derived.Test.YtbjifmbemdhndaaGreatDoorZ20
import Derived.Test.YtbjifmbemdhndaaGreatDoorZ24
set_option linter.unusedVariables false
set_option linter.unusedSimpArgs false
namespace Ab
open Go
def IW(A:Heap)(e e1:Env):Prop:= ∀t,Env.get e1 t=Env.get e t\/cq A (Env.get e t) (Env.get e1 t)
inductive xF(A:Heap):aG->aG->Prop
 |same (o:aG):xF A o o
 |vec {g sz:Nat} {es Ul:List SV} {sk:Sk} (hl:es.length=Ul.length) (h: ∀(i:Nat) (v v1:SV),es[i]? =some v->Ul[i]? =some v1->v1=v\/cq A v v1):xF A (.vec g sz es sk) (.vec g sz Ul sk)
inductive pU(A:Heap):List (Nat×aG)->List (Nat×aG)->Prop
 |nil:pU A [] []
 |cons {i:Nat} {o o1:aG} {l l1:List (Nat×aG)} (h:xF A o o1) (r:pU A l l1):pU A ((i,o)::l) ((i,o1)::l1)
 |drop {i:Nat} {o:aG} {l l1:List (Nat×aG)} (hn:aV l1 i=none) (r:pU A l l1):pU A ((i,o)::l) l1
theorem xF.gen{A:Heap}{o o1:aG}(h:xF A o o1):o.gen=o1.gen/\o.sz=o1.sz:=by cases h<;>exact⟨rfl,rfl⟩
theorem pU.refl{A:Heap}: ∀ {l:List (Nat×aG)},pU A l l
 | []=> .nil
 |(i,o)::r=> .cons (.same o) pU.refl
theorem pU.at_{A:Heap}{l l1:List (Nat×aG)}(h:pU A l l1): ∀ {j:Nat} {o1:aG},aV l1 j=some o1-> ∃o,aV l j=some o/\xF A o o1:=by
 induction h with
 |nil=>intro j o1 h;cases h
 | @cons i o o1 l l1 h r ih=>
   intro j o2 h2;by_cases hj:i=j
   ·subst hj
    rw[kW]at h2;cases h2
    exact⟨o,kW,h⟩
   ·rw[jx hj]at h2
    rw[jx hj];exact ih h2
 | @drop i o l l1 hn r ih=>
   intro j o2 h2;by_cases hj:i=j
   ·subst hj;rw[hn]at h2;cases h2
   ·rw[jx hj]
    exact ih h2
theorem eJ{A:Heap}{g sz:Nat}{v v1:SV}{sk:Sk}(h:cq A v v1):xF A (.vec g sz [v] sk) (.vec g sz [v1] sk):=
 .vec rfl fun i u u1 a b=>by
  cases i with
  |zero=>simp at a b;subst a;subst b;exact .inr h
  |succ i=>simp at a
theorem sy{c:Cx}{h:Heap}{w:World}{e e1:Env}{tmps:Array Value}{S:Nat->Bool}{l1:List (Nat×aG)}(hr:cF c h w)(he:ER c h w e tmps)
  (h1:IW ⟨h.dB,ou S h.l⟩ e e1)(h2:pU ⟨h.dB,ou S h.l⟩ (ia S h.l) l1):cF (mb S c h) ⟨h.dB,l1⟩ w/\ER (mb S c h) ⟨h.dB,l1⟩ w e1 tmps/\Ext c h w (mb S c h) ⟨h.dB,l1⟩ w:=by
 have oM:=hr.mb S;have Da: ∀ {j:Nat} {o1:aG},aV l1 j=some o1-> ∃o,aV (ia S h.l) j=some o/\xF ⟨h.dB,ou S h.l⟩ o o1:=fun hh=>h2.at_ hh
 have hx1:Ext (mb S c h) ⟨h.dB,ia S h.l⟩ w (mb S c h) ⟨h.dB,l1⟩ w:=⟨rfl,rfl,rfl,Nat.le_refl _,fun _ _ _=>rfl,fun _ _=>rfl,fun _ h=>h,fun _ h=> .inl h,Nat.le_refl _,
  fun j o' _ ho'=>by
   obtain⟨o,e1,e2⟩:=Da ho';exact⟨o,e1,Nat.le_of_eq e2.gen.1,e2.gen.2,fun _=>rfl⟩,
  fun j o' ho'=>by
   obtain⟨o,e1,_⟩:=Da ho';exact .inr ⟨o,e1,rfl⟩⟩
 have hx:Ext c h w (mb S c h) ⟨h.dB,l1⟩ w:=(Ext.mb S).trans hr hx1;refine⟨⟨fun j o ho=> ?_,fun j o ho=> ?_,fun j k o p ho hp heq=> ?_,fun j o ho=> ?_,oM.im,oM.dY⟩,fun t=> ?_,hx⟩
 ·obtain⟨o',e1,_⟩:=Da ho
  exact oM.lt j o' e1
 ·obtain⟨o',e1,e2⟩:=Da ho
  cases e2 with
  |same=>exact(oM.obj j o e1).mono oM hx1 rfl
  |vec hl hh=>
   have ja:=hr.obj j _ (iP S e1).1;cases ja with
   |vec _ _ _ _ C ty fz hw hle heq hty hc hf hcell=>
    refine .vec _ _ _ _ C ty fz hw (hl▸hle) (fun hs=>hl▸heq hs) hty (fun v hv=> ?_) hf fun i k e v x g1 g2 g3=> ?_
    ·obtain⟨i,hi⟩:=List.mem_iff_getElem?.1 hv
     obtain⟨u,hu⟩:=jz hl hi;rcases hh i u v hu hi with rfl|hd
     ·exact hc _ (List.mem_of_getElem? hu)
     ·rw[hd.cells.1]
      exact hc u (List.mem_of_getElem? hu)
    ·obtain⟨u,hu⟩:=jz hl g1
     rcases hh i u e hu g1 with rfl|hd
     ·exact(hcell i k _ v x hu g2 g3).mono hr hx
     ·obtain⟨d,mC⟩:=jz hd.cells.1.symm g2
      exact .pure ((hd.cells.2 k d v mC g2).mb S hr (hcell i k u d x hu mC g3))
 ·obtain⟨o',e1,_⟩:=Da ho
  obtain⟨p',e2,_⟩:=Da hp;exact oM.inj j k o' p' e1 e2 heq
 ·obtain⟨o',e1,_⟩:=Da ho
  exact oM.apart j o' e1
 ·rcases h1 t with h|h
  ·rw[h];exact(he t).mono hr hx
  ·exact .pure (h.mb S hr (he t))
def Mm(ks:List Nat)(n:Nat)(Q:cQ->Env->Heap->Prop)(I:Env->Heap->Prop):cQ->Env->Heap->Prop
 | .normal,e,h=> ∃(S:Nat->Bool) (e1:Env) (l1:List (Nat×aG)),IW ⟨h.dB,ou S h.l⟩ e e1/\pU ⟨h.dB,ou S h.l⟩ (ia S h.l) l1/\Ia ks n e1 ⟨h.dB,l1⟩ I
 |x,e,h=>Q x e h
theorem IX{P:Program}{b:bW}{Q:cQ->Env->Heap->Prop}(J:Nat->Env->Heap->Prop)
  (hJ: ∀m e h,J m e h-> ∃N K,h.dB<=N/\(∀ e' h',K e' h'-> ∃m',m'<m/\J m' e' h')/\Gk P b (Mm (Env.keys e) N Q K) e h){m:Nat}{e:Env}{h:Heap}(h0:J m e h):fR P b Q e h:=by
 refine⟨fun n code pG pH hc c w a hr he hn=> ?_⟩
 let I:Nat->Act->World->Prop:=fun m' a' w'=> ∃c' e' h',J m' e' h'/\cF c' h' w'/\Ext c h w c' h' w'/\ER c' h' w' e' a'.tmps/\a'.tmps.size=n/\a'.defers=a.defers
 have fX: ∀a' w',(∃ m',I m' a' w')-> ∃m',I m' a' w'/\ ∀n6,I n6 a' w'->m'<=n6:=by
  intro a' w' ⟨m',hm'⟩;refine Classical.byContradiction fun hno=> ?_
  have: ∀k,∀n6,n6<=k-> ¬I n6 a' w':=by
   intro k
   induction k with
   |zero=>intro n6 hk hI;exact hno ⟨n6,hI,fun m3 _=>by omega⟩
   |succ k ih=>
    intro n6 hk hI;refine hno ⟨n6,hI,fun m3 h3=> ?_⟩;rcases Nat.lt_or_ge k m3 with h|h
    ·omega
    ·exact absurd h3 (ih m3 h)
  exact this m' m' (Nat.le_refl _) hm'
 classical
 let μ:Act->World->Nat:=fun a' w'=>if hh: ∃m',I m' a' w' then Classical.choose (fX a' w' hh)else 0
 have Ie: ∀a' w' m',I m' a' w'->I (μ a' w') a' w'/\μ a' w'<=m':=by
  intro a' w' m' hm';have hh: ∃m',I m' a' w':=⟨m',hm'⟩;have hs:=Classical.choose_spec (fX a' w' hh);have e:μ a' w'=Classical.choose (fX a' w' hh):=by simp only[μ];rw[dif_pos hh]
  rw[e];exact⟨hs.1,hs.2 m' hm'⟩
 refine wp_loop (fun a' w'=> ∃m',I m' a' w') μ ⟨m,c,e,h,h0,hr,.refl,he,hn,rfl⟩ fun a1 w1 hI=> ?_
 obtain⟨m1,Ny⟩:=hI;obtain⟨⟨c1,e1,h1,hj,oM,hx1,Gc,vR,hd1⟩,_⟩:=Ie a1 w1 m1 Ny;obtain⟨N,K,hN,hK,Ii⟩:=hJ _ e1 h1 hj;have hb:=lu (n:=n) pG code b _ e1 h1 pH hc Ii c1 w1 a1 oM Gc vR;refine wp_mono hb fun ex a2 w2 hpost=> ?_
 obtain⟨c2,h2,e2,xx,hq,iO,hx2,ku,hn2,mc,hex⟩:=hpost;cases ex with
 |normal=>
  cases xx<;>try exact hex.elim
  obtain⟨S,e4,l4,g1,g2,hq⟩:=hq;obtain⟨RZ,R1,R2⟩:=sy iO ku g1 g2;obtain⟨e3,h3,Nz,Ki,Ig,hx3⟩:=pF (ks:=Env.keys e1) (k:=K) hq RZ R1 (hx2.trans oM R2) hN;obtain⟨m3,hlt,Kh⟩:=hK _ _ Nz;simp only[Exit.then];have Fm:I m3 a2 w2:=⟨_,e3,h3,Kh,Ki,hx1.trans hr hx3,Ig,hn2,mc.trans hd1⟩;exact⟨⟨m3,Fm⟩,Nat.lt_of_le_of_lt (Ie a2 w2 m3 Fm).2 hlt⟩
 |exit i=>cases xx<;>first|exact hex.elim|exact⟨c2,h2,e2,_,hq,iO,hx1.trans hr hx2,ku,hn2,mc.trans hd1,hex⟩
 |goto l=>cases xx<;>exact hex.elim
 |ret=>cases xx<;>first|exact hex.elim|exact⟨c2,h2,e2,_,hq,iO,hx1.trans hr hx2,ku,hn2,mc.trans hd1,hex⟩
 |panic ch=>cases xx<;>first|exact hex.elim|exact⟨c2,h2,e2,_,hq,iO,hx1.trans hr hx2,ku,hn2,mc.trans hd1,hex⟩
 |outgrown=>cases xx<;>exact hex.elim
theorem nD{P:Program}{b:bW}{Q:cQ->Env->Heap->Prop}{σ:Type}(env:σ->Env)(hp:σ->Heap)(μ:σ->Nat)(N:σ->Nat)(hN: ∀s,(hp s).dB<=N s)
  (step: ∀s,Gk P b (Mm (Env.keys (env s)) (N s) Q (fun e' h'=> ∃s',μ s'<μ s/\e'=env s'/\h'=hp s')) (env s) (hp s))(s:σ):fR P b Q (env s) (hp s):=
 IX (fun m e h=> ∃s,μ s=m/\e=env s/\h=hp s) (fun m e h ⟨s,hm,he,hh⟩=>by
  subst hm;subst he;subst hh
  exact⟨N s,_,hN s,fun e' h' ⟨s',hlt,he,hh⟩=>⟨μ s',hlt,s',rfl,he,hh⟩,step s⟩) ⟨s,rfl,rfl,rfl⟩
theorem aQ{A:Heap}{e:Env}:IW A e e:=fun t=> .inl rfl
end Ab
namespace Go.Proofs.YtbjifmbemdhndaaGreatDoor
structure Va where
 k:Int
 i:Int
 s:List UInt8
inductive Ex where
 |mk (op:Int) (v:Va) (tb nm:List UInt8) (slot kd:Int) (args:List Ex)
def Ot:Va:=⟨0,0,[]⟩
def pV(v:Va):Ex:= .mk 1 v [] [] 0 0 []
def qw(op:Int)(args:List Ex):Ex:= .mk op Ot [] [] 0 0 args
def KE(tb nm:List UInt8):Ex:= .mk 2 Ot tb nm 0 0 []
def kQ:Ex:= .mk 0 Ot [] [] 0 0 []
inductive aF(α:Type) where
 |ok (x:α) (i:Nat)
 |bad (e:Int) (i:Nat)
def aF.then{α β:Type}(r:aF α)(f:α->Nat->aF β):aF β:=match r with
 | .ok x i=>f x i
 | .bad e i=> .bad e i
abbrev nE:=Nat->Tk
def cj(T:nE)(s:List UInt8)(i:Nat):Bool:=((T i).k==1||(T i).k==4)&&(T i).t==s
def aA(T:nE)(s:List UInt8)(i:Nat):aF Unit:=if cj T s i then .ok () (i+1)else .bad 240 i
def de(T:nE)(cU:List UInt8->Bool)(i:Nat):aF (List UInt8):=if(T i).k==1&& !cU (T i).t then .ok (T i).t (i+1)else .bad 240 i
abbrev Fu:=List (List UInt8×Int)
def find? (ops:Fu)(t:List UInt8):Option Int:=match ops with
 | []=>none
 |(w,op)::r=>if t==w then some op else find? r t
def lT(ops:Fu)(t:Tk):Option Int:=if t.k==1||t.k==4 then find? ops t.t else none
def dh(T:nE)(ops:Fu)(part:Nat->aF Ex):Nat->Ex->Nat->aF Ex
 |0,x,i=> .ok x i
 |f+1,x,i=>match lT ops (T i)with
  |none=> .ok x i
  |some op=>(part (i+1)).then fun y j=>dh T ops part f (qw op [x,y]) j
def iA(T:nE)(n:Nat)(ops:Fu)(part:Nat->aF Ex)(i:Nat):aF Ex:=(part i).then fun x j=>dh T ops part n x j
def nF:Fu:=[([111,114],16)]
def gV:Fu:=[([97,110,100],15)]
def fJ:Fu:=[([43],3),([45],4),([124,124],8)]
def fK:Fu:=[([42],5),([47],6),([37],7)]
def DE:Fu:=[([61],9),([60,62],10),([60],11),([60,61],12),([62],13),([62,61],14)]
def DF:Fu:=[([99,111,117,110,116],22),([115,117,109],23),([109,105,110],24),([109,97,120],25)]
structure Lv where
 expr:Nat->aF Ex
 R3:Nat->aF Ex
 uW:Nat->aF Ex
 cmp:Nat->aF Ex
 sum:Nat->aF Ex
 prod:Nat->aF Ex
 unary:Nat->aF Ex
 tJ:Nat->aF Ex
def rm(T:nE)(cU:List UInt8->Bool)(i:Nat):aF Ex:=(de T cU i).then fun s j=>
 if cj T [46] j then(de T cU (j+1)).then fun t k=> .ok (KE s t) k else .ok (KE [] s) j
def kH{α:Type}(dn:Option Lv)(i:Nat)(f:Lv->aF α):aF α:=match dn with
 |none=> .bad 241 i
 |some L=>f L
def wC(T:nE)(L:Lv)(op:Int)(i:Nat):aF Ex:=
 if cj T [40] (i+1)then
  if op==22&&cj T [42] (i+2)then(aA T [41] (i+3)).then fun _ j=> .ok (qw 21 []) j
  else(L.expr (i+2)).then fun x j=>(aA T [41] j).then fun _ k=> .ok (qw op [x]) k
 else .bad 240 (i+1)
def zP(t:List UInt8):Option Va:=if t==[116,114,117,101]then some ⟨1,1,[]⟩else if t==[102,97,108,115,101]then some ⟨1,0,[]⟩else if t==[110,117,108,108]then some Ot else none
def oC(T:nE)(cU:List UInt8->Bool)(dn:Option Lv)(i:Nat):aF Ex:=
 if(T i).k==2 then(if 9223372036854775807<(T i).n then .bad 233 i else .ok (pV ⟨2,((T i).n:Nat),[]⟩) (i+1))
 else if(T i).k==3 then .ok (pV ⟨3,0,(T i).t⟩) (i+1)
 else if(T i).k==1 then(match zP (T i).t with
  |some v=> .ok (pV v) (i+1)
  |none=>match find? DF (T i).t with
   |some op=>kH dn i fun L=>wC T L op i
   |none=>rq i)
 else rq i
where rq (i:Nat):aF Ex:=
 if cj T [40] i then kH dn i fun L=>(L.expr (i+1)).then fun x j=>(aA T [41] j).then fun _ k=> .ok x k
 else rm T cU i
def tK(T:nE)(dn:Option Lv)(tJ:Nat->aF Ex)(i:Nat):aF Ex:=
 if cj T [45] i then
  if(T (i+1)).k==2 then .ok (pV ⟨2,Go.IntKind.i64.wrap (Go.IntKind.u64.wrap (0-((T (i+1)).n:Int))),[]⟩) (i+2)
  else kH dn i fun L=>(L.unary (i+1)).then fun y j=> .ok (qw 18 [y]) j
 else tJ i
def GD(T:nE)(dn:Option Lv)(cmp:Nat->aF Ex)(i:Nat):aF Ex:=
 if cj T [110,111,116] i then kH dn i fun L=>(L.uW (i+1)).then fun y j=> .ok (qw 17 [y]) j
 else cmp i
def GF(T:nE)(sum:Nat->aF Ex)(i:Nat):aF Ex:=(sum i).then fun x j=>
 if cj T [105,115] j then
  if cj T [110,111,116] (j+1)then(aA T [110,117,108,108] (j+2)).then fun _ k=> .ok (qw 20 [x]) k
  else(aA T [110,117,108,108] (j+1)).then fun _ k=> .ok (qw 19 [x]) k
 else match find? DE (T j).t with
  |none=> .ok x j
  |some op=>if(T j).k==4 then(sum (j+1)).then fun y k=> .ok (qw op [x,y]) k else .ok x j
def IY(T:nE)(cU:List UInt8->Bool)(n:Nat)(dn:Option Lv):Lv:=
 let tJ:=oC T cU dn
 let unary:=tK T dn tJ
 let prod:=iA T n fK unary
 let sum:=iA T n fJ prod
 let cmp:=GF T sum
 let nt:=GD T dn cmp
 let an:=iA T n gV nt
 ⟨iA T n nF an,an,nt,cmp,sum,prod,unary,tJ⟩
def R4(T:nE)(cU:List UInt8->Bool)(n:Nat):Nat->Lv
 |0=>IY T cU n none
 |d+1=>IY T cU n (some (R4 T cU n d))
end Go.Proofs.YtbjifmbemdhndaaGreatDoor
namespace Go.Proofs.YtbjifmbemdhndaaGreatDoor
open Ab Go.RowKit
set_option maxRecDepth 100000
@[reducible] def mT (l:List SV):SV:= .dm 9 l.length fun i=>l.getD i .undef
mutual
def uD:Ex->SV
 | .mk op v tb nm slot kd args=> .agg [.int .u8 op,.int .u8 v.k,.int .i64 v.i,.str v.s,.str tb,.str nm,.int .i64 slot,.int .u8 kd,mT (iY args)]
def iY:List Ex->List SV
 | []=>[]
 |x::r=>uD x::iY r
end
theorem gA(l:List SV):bJ (mT l):= .dm _ _ _
theorem aD(x:Ex):bJ (uD x):=by
 cases x
 rw[uD];refine .agg ?_;simp only[List.mem_cons,List.not_mem_nil,or_false];rintro _ (rfl|rfl|rfl|rfl|rfl|rfl|rfl|rfl|rfl);all_goals first|exact gA _|constructor
theorem qe{A:Heap}{i g:Nat}{cap:Option Nat}{v:SV}{x:Ex}{sk:Sk}(ho:A.obj i=some (.vec g 9 [v] sk))(hv:cq A v (uD x)):cq A (.sl i g 9 0 1 cap) (mT (iY [x])):=
 .sl ho (Nat.le_refl 1) fun j u hj hu=>by
  obtain rfl:j=0:=by omega
  simp at hu;subst hu
  exact hv
theorem dW{A:Heap}{i g:Nat}{cap:Option Nat}{v u:SV}{x y:Ex}{sk:Sk}(ho:A.obj i=some (.vec g 9 [v,u] sk))(hv:cq A v (uD x))(hu:cq A u (uD y)):cq A (.sl i g 9 0 2 cap) (mT (iY [x,y])):=
 .sl ho (Nat.le_refl 2) fun j d hj hd=>by
  match j,hj with
  |0,_=>simp at hd;subst hd;exact hv
  |1,_=>simp at hd;subst hd;exact hu
theorem pW{A:Heap}:cq A .ak (mT (iY [])):= .nil
theorem sA{A:Heap}{op k n slot kd:Int}{t tb nm:List UInt8}{v:SV}{args:List Ex}(hv:cq A v (mT (iY args))):cq A (.agg [.int .u8 op,.int .u8 k,.int .i64 n,.str t,.str tb,.str nm,.int .i64 slot,.int .u8 kd,v]) (uD (.mk op ⟨k,n,t⟩ tb nm slot kd args)):=by
 rw[uD];refine .agg rfl fun i u u' h1 h2=> ?_
 match i with
 |0=>simp at h1 h2;subst h1;subst h2;exact .lit (.int _ _)
 |1=>simp at h1 h2;subst h1;subst h2;exact .lit (.int _ _)
 |2=>simp at h1 h2;subst h1;subst h2;exact .lit (.int _ _)
 |3=>simp at h1 h2;subst h1;subst h2;exact .lit (.str _)
 |4=>simp at h1 h2;subst h1;subst h2;exact .lit (.str _)
 |5=>simp at h1 h2;subst h1;subst h2;exact .lit (.str _)
 |6=>simp at h1 h2;subst h1;subst h2;exact .lit (.int _ _)
 |7=>simp at h1 h2;subst h1;subst h2;exact .lit (.int _ _)
 |8=>simp at h1 h2;subst h1;subst h2;exact hv
 |i+9=>simp at h1
theorem cS{A:Heap}{op:Int}{v:SV}{args:List Ex}(hv:cq A v (mT (iY args))):cq A (.agg [.int .u8 op,.int .u8 0,.int .i64 0,.str [],.str [],.str [],.int .i64 0,.int .u8 0,v]) (uD (qw op args)):=sA hv
@[reducible] def dx (l:List TP) (i m e:Nat):aG:= .vec 0 4 [.agg [Gz l,.int .i64 (i:Nat),.int .i64 (m:Nat),.int .i64 (e:Nat)]] ⟨false,some 69⟩
theorem ah(l:List TP)(i m e:Nat):BI (dx l i m e):=⟨rfl,fun v hv=>by
 simp only[List.mem_singleton]at hv;subst hv;refine .agg ?_;simp only[List.mem_cons,List.not_mem_nil,or_false];rintro _ (rfl|rfl|rfl|rfl)<;>constructor⟩
@[reducible] def aq (l:List TP):nE:=fun i=>(l.getD i aC).1
def dF(l:List TP)(m i:Nat):Nat:=if i<l.length then(l.getD i aC).2 else m
@[reducible] def kX (e:Int) (at_:Nat):SV:= .iface 33 (.agg [.int .i64 e,.int .i64 at_])
theorem ai(e:Int)(a:Nat):bJ (kX e a):= .iface _ (.agg (by simp only[List.mem_cons,List.not_mem_nil,or_false];rintro _ (rfl|rfl)<;>constructor))
theorem zQ{l:List TP}{i:Nat}(h: ¬i<l.length):l.getD i aC=aC:=by simp[List.getD,List.getElem?_eq_none (Nat.le_of_not_lt h)]
theorem aO: ∀x∈([]:List SV),bJ x:=fun x h=>by simp at h
end Go.Proofs.YtbjifmbemdhndaaGreatDoor
namespace Go.Proofs.YtbjifmbemdhndaaGreatDoor
open Ab Go.RowKit
set_option maxRecDepth 100000
set_option maxHeartbeats 4000000
attribute [local irreducible] bB cH
section
variable {l:List TP} {m e:Nat}
theorem eS(i:Nat):cy Tryz.prog 119 [] (dx l i m e) (.ret (me (l.getD i aC))) (dx l i m e):=by
 refine⟨aO,ah ..,ah ..,pS _,IJ.call mixed rfl ?_⟩;by_cases h:i<l.length
 ·have hd:decide ((i:Int)<(l.length:Int))=true:=decide_eq_true (by omega)
  iterate 12 all_goals ((try conv=>whnf);try first|(with_reducible first|refine zY ?_|refine zN ?_|refine zT ?_|refine br (fun _=> ?_) (fun _=> ?_)|refine⟨rfl,?_⟩))
  exact bT (.lit (pS _)) rfl
 ·have hd:decide ((i:Int)<(l.length:Int))=false:=decide_eq_false (by omega)
  rw[zQ h];iterate 12 all_goals ((try conv=>whnf);try first|(with_reducible first|refine zY ?_|refine zN ?_|refine zT ?_|refine br (fun _=> ?_) (fun _=> ?_)|refine⟨rfl,?_⟩))
  exact bT (.lit (pS aC)) rfl
theorem GG(i:Nat):cy Tryz.prog 121 [] (dx l i m e) (.ret (.int .i64 (dF l m i:Nat))) (dx l i m e):=by
 refine⟨aO,ah ..,ah ..,.int _ _,N3.call mixed rfl ?_⟩;by_cases h:i<l.length
 ·have hd:decide ((i:Int)<(l.length:Int))=true:=decide_eq_true (by omega)
  rw[dF,if_pos h];iterate 12 all_goals ((try conv=>whnf);try first|(with_reducible first|refine zY ?_|refine zN ?_|refine zT ?_|refine br (fun _=> ?_) (fun _=> ?_)|refine⟨rfl,?_⟩))
  exact bT (.lit (.int _ _)) rfl
 ·have hd:decide ((i:Int)<(l.length:Int))=false:=decide_eq_false (by omega)
  rw[dF,if_neg h];iterate 12 all_goals ((try conv=>whnf);try first|(with_reducible first|refine zY ?_|refine zN ?_|refine zT ?_|refine br (fun _=> ?_) (fun _=> ?_)|refine⟨rfl,?_⟩))
  exact bT (.lit (.int _ _)) rfl
theorem bM(er:Int)(i:Nat):cy Tryz.prog 62 [.int .i64 er] (dx l i m e) (.bO (kX er (dF l m i))) (dx l i m e):=by
 refine⟨cZ (.int _ _),ah ..,ah ..,ai _ _,RE.call mixed rfl ?_⟩;have c:=GG (l:=l) (m:=m) (e:=e) i;iterate 8 all_goals ((try conv=>whnf);try first|(with_reducible first|refine zY ?_|refine zN ?_|refine zT ?_|refine br (fun _=> ?_) (fun _=> ?_)|refine⟨rfl,?_⟩)|(refine c.call rfl ?_))
 exact aW (ai _ _)
theorem gW(s:List UInt8)(i:Nat):cy Tryz.prog 81 [.str s] (dx l i m e) (.ret (.bool (cj (aq l) s i))) (dx l i m e):=by
 refine⟨cZ (.str _),ah ..,ah ..,.bool _,Ml.call mixed rfl ?_⟩;have c:=eS (l:=l) (m:=m) (e:=e) i;iterate 20 all_goals ((try conv=>whnf);try first|(with_reducible first|refine zY ?_|refine zN ?_|refine zT ?_|refine br (fun _=> ?_) (fun _=> ?_)|refine⟨rfl,?_⟩)|(refine c.call rfl ?_))
 all_goals
  refine bT ?_ rfl;rw[show cj (aq l) s i=(((l.getD i aC).1.k==1||(l.getD i aC).1.k==4)&&(l.getD i aC).1.t==s) from rfl];simp only[*,Bool.true_or,Bool.or_true,Bool.false_or,Bool.or_self,Bool.true_and,Bool.false_and];exact .lit (.bool _)
end
end Go.Proofs.YtbjifmbemdhndaaGreatDoor
