/- Parts of the proof of PCatalogBack, one behind the other, with short names. -/
import Derived.Test.YtegmnocpkgpgeaaGreatDoorZ25
import Derived.Test.YtegmnocpkgpgeaaGreatDoorZ20
import Derived.Test.YtegmnocpkgpgeaaGreatDoorZ24
set_option linter.unusedVariables false
set_option linter.unusedSimpArgs false
namespace Ab
open Go
def wX(A:Heap)(e e1:Env):Prop:= ∀t,Env.get e1 t=Env.get e t\/bA A (Env.get e t) (Env.get e1 t)
inductive yL(A:Heap):ai->ai->Prop
 |same (o:ai):yL A o o
 |vec {g sz:Nat} {es Yg:List SV} {sk:Sk} (hl:es.length=Yg.length) (h: ∀(i:Nat) (v v1:SV),es[i]? =some v->Yg[i]? =some v1->v1=v\/bA A v v1):yL A (.vec g sz es sk) (.vec g sz Yg sk)
inductive k9(A:Heap):List (Nat×ai)->List (Nat×ai)->Prop
 |nil:k9 A [] []
 |cons {i:Nat} {o o1:ai} {l l1:List (Nat×ai)} (h:yL A o o1) (r:k9 A l l1):k9 A ((i,o)::l) ((i,o1)::l1)
 |drop {i:Nat} {o:ai} {l l1:List (Nat×ai)} (hn:ak l1 i=none) (r:k9 A l l1):k9 A ((i,o)::l) l1
theorem yL.gen{A:Heap}{o o1:ai}(h:yL A o o1):o.gen=o1.gen/\o.sz=o1.sz:=by cases h<;>exact⟨rfl,rfl⟩
theorem k9.refl{A:Heap}: ∀ {l:List (Nat×ai)},k9 A l l
 | []=> .nil
 |(i,o)::r=> .cons (.same o) k9.refl
theorem k9.at_{A:Heap}{l l1:List (Nat×ai)}(h:k9 A l l1): ∀ {j:Nat} {o1:ai},ak l1 j=some o1-> ∃o,ak l j=some o/\yL A o o1:=by
 induction h with
 |nil=>intro j o1 h;cases h
 | @cons i o o1 l l1 h r ih=>
   intro j o2 h2;by_cases hj:i=j
   ·subst hj
    rw[dD]at h2;cases h2
    exact⟨o,dD,h⟩
   ·rw[aU hj]at h2
    rw[aU hj];exact ih h2
 | @drop i o l l1 hn r ih=>
   intro j o2 h2;by_cases hj:i=j
   ·subst hj;rw[hn]at h2;cases h2
   ·rw[aU hj]
    exact ih h2
theorem oK{A:Heap}{g sz:Nat}{v v1:SV}{sk:Sk}(h:bA A v v1):yL A (.vec g sz [v] sk) (.vec g sz [v1] sk):=
 .vec rfl fun i u u1 a b=>by
  cases i with
  |zero=>simp at a b;subst a;subst b;exact .inr h
  |succ i=>simp at a
theorem n5{c:Cx}{h:Heap}{w:World}{e e1:Env}{tmps:Array Value}{S:Nat->Bool}{l1:List (Nat×ai)}(hr:bT c h w)(he:ER c h w e tmps)
  (h1:wX ⟨h.cI,kL S h.l⟩ e e1)(h2:k9 ⟨h.cI,kL S h.l⟩ (cE S h.l) l1):bT (kC S c h) ⟨h.cI,l1⟩ w/\ER (kC S c h) ⟨h.cI,l1⟩ w e1 tmps/\Ext c h w (kC S c h) ⟨h.cI,l1⟩ w:=by
 have og:=hr.kC S;have pq: ∀ {j:Nat} {o1:ai},ak l1 j=some o1-> ∃o,ak (cE S h.l) j=some o/\yL ⟨h.cI,kL S h.l⟩ o o1:=fun hh=>h2.at_ hh
 have hx1:Ext (kC S c h) ⟨h.cI,cE S h.l⟩ w (kC S c h) ⟨h.cI,l1⟩ w:=⟨rfl,rfl,rfl,Nat.le_refl _,fun _ _ _=>rfl,fun _ _=>rfl,fun _ h=>h,fun _ h=> .inl h,Nat.le_refl _,
  fun j o' _ ho'=>by
   obtain⟨o,e1,e2⟩:=pq ho';exact⟨o,e1,Nat.le_of_eq e2.gen.1,e2.gen.2,fun _=>rfl⟩,
  fun j o' ho'=>by
   obtain⟨o,e1,_⟩:=pq ho';exact .inr ⟨o,e1,rfl⟩⟩
 have hx:Ext c h w (kC S c h) ⟨h.cI,l1⟩ w:=(Ext.kC S).trans hr hx1;refine⟨⟨fun j o ho=> ?_,fun j o ho=> ?_,fun j k o p ho hp heq=> ?_,fun j o ho=> ?_,og.im,og.dj⟩,fun t=> ?_,hx⟩
 ·obtain⟨o',e1,_⟩:=pq ho
  exact og.lt j o' e1
 ·obtain⟨o',e1,e2⟩:=pq ho
  cases e2 with
  |same=>exact(og.obj j o e1).mono og hx1 rfl
  |vec hl hh=>
   have jn:=hr.obj j _ (iX S e1).1;cases jn with
   |vec _ _ _ _ C ty fz hw hle heq hty hc hf hcell=>
    refine .vec _ _ _ _ C ty fz hw (hl▸hle) (fun hs=>hl▸heq hs) hty (fun v hv=> ?_) hf fun i k e v x g1 g2 g3=> ?_
    ·obtain⟨i,hi⟩:=List.mem_iff_getElem?.1 hv
     obtain⟨u,hu⟩:=j7 hl hi;rcases hh i u v hu hi with rfl|hd
     ·exact hc _ (List.mem_of_getElem? hu)
     ·rw[hd.cells.1]
      exact hc u (List.mem_of_getElem? hu)
    ·obtain⟨u,hu⟩:=j7 hl g1
     rcases hh i u e hu g1 with rfl|hd
     ·exact(hcell i k _ v x hu g2 g3).mono hr hx
     ·obtain⟨d,mA⟩:=j7 hd.cells.1.symm g2
      exact .pure ((hd.cells.2 k d v mA g2).kC S hr (hcell i k u d x hu mA g3))
 ·obtain⟨o',e1,_⟩:=pq ho
  obtain⟨p',e2,_⟩:=pq hp;exact og.inj j k o' p' e1 e2 heq
 ·obtain⟨o',e1,_⟩:=pq ho
  exact og.apart j o' e1
 ·rcases h1 t with h|h
  ·rw[h];exact(he t).mono hr hx
  ·exact .pure (h.kC S hr (he t))
def PJ(ks:List Nat)(n:Nat)(Q:bS->Env->Heap->Prop)(I:Env->Heap->Prop):bS->Env->Heap->Prop
 | .normal,e,h=> ∃(S:Nat->Bool) (e1:Env) (l1:List (Nat×ai)),wX ⟨h.cI,kL S h.l⟩ e e1/\k9 ⟨h.cI,kL S h.l⟩ (cE S h.l) l1/\CG ks n e1 ⟨h.cI,l1⟩ I
 |x,e,h=>Q x e h
theorem KT{P:Program}{b:bK}{Q:bS->Env->Heap->Prop}(J:Nat->Env->Heap->Prop)
  (hJ: ∀m e h,J m e h-> ∃N K,h.cI<=N/\(∀ e' h',K e' h'-> ∃m',m'<m/\J m' e' h')/\D9 P b (PJ (Env.keys e) N Q K) e h){m:Nat}{e:Env}{h:Heap}(h0:J m e h):dR P b Q e h:=by
 refine⟨fun n code mc me hc c w a hr he hn=> ?_⟩
 let I:Nat->Act->World->Prop:=fun m' a' w'=> ∃c' e' h',J m' e' h'/\bT c' h' w'/\Ext c h w c' h' w'/\ER c' h' w' e' a'.tmps/\a'.tmps.size=n/\a'.defers=a.defers
 have eF: ∀a' w',(∃ m',I m' a' w')-> ∃m',I m' a' w'/\ ∀k6,I k6 a' w'->m'<=k6:=by
  intro a' w' ⟨m',hm'⟩;refine Classical.byContradiction fun hno=> ?_
  have: ∀k,∀k6,k6<=k-> ¬I k6 a' w':=by
   intro k
   induction k with
   |zero=>intro k6 hk hI;exact hno ⟨k6,hI,fun m3 _=>by omega⟩
   |succ k ih=>
    intro k6 hk hI;refine hno ⟨k6,hI,fun m3 h3=> ?_⟩;rcases Nat.lt_or_ge k m3 with h|h
    ·omega
    ·exact absurd h3 (ih m3 h)
  exact this m' m' (Nat.le_refl _) hm'
 classical
 let μ:Act->World->Nat:=fun a' w'=>if hh: ∃m',I m' a' w' then Classical.choose (eF a' w' hh)else 0
 have Gt: ∀a' w' m',I m' a' w'->I (μ a' w') a' w'/\μ a' w'<=m':=by
  intro a' w' m' hm';have hh: ∃m',I m' a' w':=⟨m',hm'⟩;have hs:=Classical.choose_spec (eF a' w' hh);have e:μ a' w'=Classical.choose (eF a' w' hh):=by simp only[μ];rw[dif_pos hh]
  rw[e];exact⟨hs.1,hs.2 m' hm'⟩
 refine wp_loop (fun a' w'=> ∃m',I m' a' w') μ ⟨m,c,e,h,h0,hr,.refl,he,hn,rfl⟩ fun a1 w1 hI=> ?_
 obtain⟨m1,Nq⟩:=hI;obtain⟨⟨c1,e1,h1,hj,og,hx1,EG,wB,hd1⟩,_⟩:=Gt a1 w1 m1 Nq;obtain⟨N,K,hN,hK,EU⟩:=hJ _ e1 h1 hj;have hb:=iN (n:=n) mc code b _ e1 h1 me hc EU c1 w1 a1 og EG wB;refine wp_mono hb fun ex a2 w2 hpost=> ?_
 obtain⟨c2,h2,e2,xx,hq,gV,hx2,iL,hn2,iR,hex⟩:=hpost;cases ex with
 |normal=>
  cases xx<;>try exact hex.elim
  obtain⟨S,e4,l4,g1,g2,hq⟩:=hq;obtain⟨NO,NP,NQ⟩:=n5 gV iL g1 g2;obtain⟨e3,h3,Px,Kn,ET,hx3⟩:=nS (ks:=Env.keys e1) (k:=K) hq NO NP (hx2.trans og NQ) hN;obtain⟨m3,hlt,Ie⟩:=hK _ _ Px;simp only[Exit.then];have CI:I m3 a2 w2:=⟨_,e3,h3,Ie,Kn,hx1.trans hr hx3,ET,hn2,iR.trans hd1⟩;exact⟨⟨m3,CI⟩,Nat.lt_of_le_of_lt (Gt a2 w2 m3 CI).2 hlt⟩
 |exit i=>cases xx<;>first|exact hex.elim|exact⟨c2,h2,e2,_,hq,gV,hx1.trans hr hx2,iL,hn2,iR.trans hd1,hex⟩
 |goto l=>cases xx<;>exact hex.elim
 |ret=>cases xx<;>first|exact hex.elim|exact⟨c2,h2,e2,_,hq,gV,hx1.trans hr hx2,iL,hn2,iR.trans hd1,hex⟩
 |panic ch=>cases xx<;>first|exact hex.elim|exact⟨c2,h2,e2,_,hq,gV,hx1.trans hr hx2,iL,hn2,iR.trans hd1,hex⟩
 |outgrown=>cases xx<;>exact hex.elim
theorem zy{P:Program}{b:bK}{Q:bS->Env->Heap->Prop}{σ:Type}(env:σ->Env)(hp:σ->Heap)(μ:σ->Nat)(N:σ->Nat)(hN: ∀s,(hp s).cI<=N s)
  (step: ∀s,D9 P b (PJ (Env.keys (env s)) (N s) Q (fun e' h'=> ∃s',μ s'<μ s/\e'=env s'/\h'=hp s')) (env s) (hp s))(s:σ):dR P b Q (env s) (hp s):=
 KT (fun m e h=> ∃s,μ s=m/\e=env s/\h=hp s) (fun m e h ⟨s,hm,he,hh⟩=>by
  subst hm;subst he;subst hh
  exact⟨N s,_,hN s,fun e' h' ⟨s',hlt,he,hh⟩=>⟨μ s',hlt,s',rfl,he,hh⟩,step s⟩) ⟨s,rfl,rfl,rfl⟩
theorem bh{A:Heap}{e:Env}:wX A e e:=fun t=> .inl rfl
end Ab
namespace Go.Proofs.YtegmnocpkgpgeaaGreatDoor
structure Va where
 k:Int
 i:Int
 s:List UInt8
inductive Ex where
 |mk (op:Int) (v:Va) (tb nm:List UInt8) (slot kd:Int) (args:List Ex)
def WY:Va:=⟨0,0,[]⟩
def E4(v:Va):Ex:= .mk 1 v [] [] 0 0 []
def E5(op:Int)(args:List Ex):Ex:= .mk op WY [] [] 0 0 args
def So(tb nm:List UInt8):Ex:= .mk 2 WY tb nm 0 0 []
def GD:Ex:= .mk 0 WY [] [] 0 0 []
inductive bB(α:Type) where
 |ok (x:α) (i:Nat)
 |bad (e:Int) (i:Nat)
def bB.then{α β:Type}(r:bB α)(f:α->Nat->bB β):bB β:=match r with
 | .ok x i=>f x i
 | .bad e i=> .bad e i
abbrev ld:=Nat->Tk
def dY(T:ld)(s:List UInt8)(i:Nat):Bool:=((T i).k==1||(T i).k==4)&&(T i).t==s
def aM(T:ld)(s:List UInt8)(i:Nat):bB Unit:=if dY T s i then .ok () (i+1)else .bad 240 i
def fC(T:ld)(aX:List UInt8->Bool)(i:Nat):bB (List UInt8):=if(T i).k==1&& !aX (T i).t then .ok (T i).t (i+1)else .bad 240 i
abbrev By:=List (List UInt8×Int)
def find? (ops:By)(t:List UInt8):Option Int:=match ops with
 | []=>none
 |(w,op)::r=>if t==w then some op else find? r t
def KU(ops:By)(t:Tk):Option Int:=if t.k==1||t.k==4 then find? ops t.t else none
def mF(T:ld)(ops:By)(part:Nat->bB Ex):Nat->Ex->Nat->bB Ex
 |0,x,i=> .ok x i
 |f+1,x,i=>match KU ops (T i)with
  |none=> .ok x i
  |some op=>(part (i+1)).then fun y j=>mF T ops part f (E5 op [x,y]) j
def kP(T:ld)(n:Nat)(ops:By)(part:Nat->bB Ex)(i:Nat):bB Ex:=(part i).then fun x j=>mF T ops part n x j
def KV:By:=[([111,114],16)]
def E6:By:=[([97,110,100],15)]
def E7:By:=[([43],3),([45],4),([124,124],8)]
def E8:By:=[([42],5),([47],6),([37],7)]
def wY:By:=[([61],9),([60,62],10),([60],11),([60,61],12),([62],13),([62,61],14)]
def iA:By:=[([99,111,117,110,116],22),([115,117,109],23),([109,105,110],24),([109,97,120],25)]
structure Lv where
 expr:Nat->bB Ex
 aaf:Nat->bB Ex
 KW:Nat->bB Ex
 cmp:Nat->bB Ex
 sum:Nat->bB Ex
 prod:Nat->bB Ex
 unary:Nat->bB Ex
 KX:Nat->bB Ex
def Iu(T:ld)(aX:List UInt8->Bool)(i:Nat):bB Ex:=(fC T aX i).then fun s j=>
 if dY T [46] j then(fC T aX (j+1)).then fun t k=> .ok (So s t) k else .ok (So [] s) j
def fk{α:Type}(dn:Option Lv)(i:Nat)(f:Lv->bB α):bB α:=match dn with
 |none=> .bad 241 i
 |some L=>f L
def E9(T:ld)(L:Lv)(op:Int)(i:Nat):bB Ex:=
 if dY T [40] (i+1)then
  if op==22&&dY T [42] (i+2)then(aM T [41] (i+3)).then fun _ j=> .ok (E5 21 []) j
  else(L.expr (i+2)).then fun x j=>(aM T [41] j).then fun _ k=> .ok (E5 op [x]) k
 else .bad 240 (i+1)
def fq(t:List UInt8):Option Va:=if t==[116,114,117,101]then some ⟨1,1,[]⟩else if t==[102,97,108,115,101]then some ⟨1,0,[]⟩else if t==[110,117,108,108]then some WY else none
def ez(T:ld)(aX:List UInt8->Bool)(dn:Option Lv)(i:Nat):bB Ex:=
 if(T i).k==2 then(if 9223372036854775807<(T i).n then .bad 233 i else .ok (E4 ⟨2,((T i).n:Nat),[]⟩) (i+1))
 else if(T i).k==3 then .ok (E4 ⟨3,0,(T i).t⟩) (i+1)
 else if(T i).k==1 then(match fq (T i).t with
  |some v=> .ok (E4 v) (i+1)
  |none=>match find? iA (T i).t with
   |some op=>fk dn i fun L=>E9 T L op i
   |none=>gL i)
 else gL i
where gL (i:Nat):bB Ex:=
 if dY T [40] i then fk dn i fun L=>(L.expr (i+1)).then fun x j=>(aM T [41] j).then fun _ k=> .ok x k
 else Iu T aX i
def mX(T:ld)(dn:Option Lv)(KX:Nat->bB Ex)(i:Nat):bB Ex:=
 if dY T [45] i then
  if(T (i+1)).k==2 then .ok (E4 ⟨2,Go.IntKind.i64.wrap (Go.IntKind.u64.wrap (0-((T (i+1)).n:Int))),[]⟩) (i+2)
  else fk dn i fun L=>(L.unary (i+1)).then fun y j=> .ok (E5 18 [y]) j
 else KX i
def Fa(T:ld)(dn:Option Lv)(cmp:Nat->bB Ex)(i:Nat):bB Ex:=
 if dY T [110,111,116] i then fk dn i fun L=>(L.KW (i+1)).then fun y j=> .ok (E5 17 [y]) j
 else cmp i
def Iv(T:ld)(sum:Nat->bB Ex)(i:Nat):bB Ex:=(sum i).then fun x j=>
 if dY T [105,115] j then
  if dY T [110,111,116] (j+1)then(aM T [110,117,108,108] (j+2)).then fun _ k=> .ok (E5 20 [x]) k
  else(aM T [110,117,108,108] (j+1)).then fun _ k=> .ok (E5 19 [x]) k
 else match find? wY (T j).t with
  |none=> .ok x j
  |some op=>if(T j).k==4 then(sum (j+1)).then fun y k=> .ok (E5 op [x,y]) k else .ok x j
def Sp(T:ld)(aX:List UInt8->Bool)(n:Nat)(dn:Option Lv):Lv:=
 let KX:=ez T aX dn
 let unary:=mX T dn KX
 let prod:=kP T n E8 unary
 let sum:=kP T n E7 prod
 let cmp:=Iv T sum
 let nt:=Fa T dn cmp
 let an:=kP T n E6 nt
 ⟨kP T n KV an,an,nt,cmp,sum,prod,unary,KX⟩
def Yh(T:ld)(aX:List UInt8->Bool)(n:Nat):Nat->Lv
 |0=>Sp T aX n none
 |d+1=>Sp T aX n (some (Yh T aX n d))
end Go.Proofs.YtegmnocpkgpgeaaGreatDoor
namespace Go.Proofs.YtegmnocpkgpgeaaGreatDoor
open Ab Go.RowKit
set_option maxRecDepth 100000
@[reducible] def sM (l:List SV):SV:= .aW 9 l.length fun i=>l.getD i .undef
mutual
def KY:Ex->SV
 | .mk op v tb nm slot kd args=> .agg [.int .u8 op,.int .u8 v.k,.int .i64 v.i,.str v.s,.str tb,.str nm,.int .i64 slot,.int .u8 kd,sM (sN args)]
def sN:List Ex->List SV
 | []=>[]
 |x::r=>KY x::sN r
end
theorem p5(l:List SV):aL (sM l):= .aW _ _ _
theorem NR(x:Ex):aL (KY x):=by
 cases x
 rw[KY];refine .agg ?_;simp only[List.mem_cons,List.not_mem_nil,or_false];rintro _ (rfl|rfl|rfl|rfl|rfl|rfl|rfl|rfl|rfl);all_goals first|exact p5 _|constructor
theorem NS{A:Heap}{i g:Nat}{cap:Option Nat}{v:SV}{x:Ex}{sk:Sk}(ho:A.obj i=some (.vec g 9 [v] sk))(hv:bA A v (KY x)):bA A (.sl i g 9 0 1 cap) (sM (sN [x])):=
 .sl ho (Nat.le_refl 1) fun j u hj hu=>by
  obtain rfl:j=0:=by omega
  simp at hu;subst hu
  exact hv
theorem NT{A:Heap}{i g:Nat}{cap:Option Nat}{v u:SV}{x y:Ex}{sk:Sk}(ho:A.obj i=some (.vec g 9 [v,u] sk))(hv:bA A v (KY x))(hu:bA A u (KY y)):bA A (.sl i g 9 0 2 cap) (sM (sN [x,y])):=
 .sl ho (Nat.le_refl 2) fun j d hj hd=>by
  match j,hj with
  |0,_=>simp at hd;subst hd;exact hv
  |1,_=>simp at hd;subst hd;exact hu
theorem sO{A:Heap}:bA A .af (sM (sN [])):= .nil
theorem NU{A:Heap}{op k n slot kd:Int}{t tb nm:List UInt8}{v:SV}{args:List Ex}(hv:bA A v (sM (sN args))):bA A (.agg [.int .u8 op,.int .u8 k,.int .i64 n,.str t,.str tb,.str nm,.int .i64 slot,.int .u8 kd,v]) (KY (.mk op ⟨k,n,t⟩ tb nm slot kd args)):=by
 rw[KY];refine .agg rfl fun i u u' h1 h2=> ?_
 match i with
 |0=>simp at h1 h2;subst h1;subst h2;exact .lit (.int _ _)
 |1=>simp at h1 h2;subst h1;subst h2;exact .lit (.int _ _)
 |2=>simp at h1 h2;subst h1;subst h2;exact .lit (.int _ _)
 |3=>simp at h1 h2;subst h1;subst h2;exact .lit (.str _)
 |4=>simp at h1 h2;subst h1;subst h2;exact .lit (.str _)
 |5=>simp at h1 h2;subst h1;subst h2;exact .lit (.str _)
 |6=>simp at h1 h2;subst h1;subst h2;exact .lit (.int _ _)
 |7=>simp at h1 h2;subst h1;subst h2;exact .lit (.int _ _)
 |8=>simp at h1 h2;subst h1;subst h2;exact hv
 |i+9=>simp at h1
@[reducible] def gv (l:List TP) (i m e:Nat):ai:= .vec 0 4 [.agg [wU l,.int .i64 (i:Nat),.int .i64 (m:Nat),.int .i64 (e:Nat)]] ⟨false,some 131⟩
theorem bE(l:List TP)(i m e:Nat):AV (gv l i m e):=⟨rfl,fun v hv=>by
 simp only[List.mem_singleton]at hv;subst hv;refine .agg ?_;simp only[List.mem_cons,List.not_mem_nil,or_false];rintro _ (rfl|rfl|rfl|rfl)<;>constructor⟩
@[reducible] def aO (l:List TP):ld:=fun i=>(l.getD i bG).1
def dG(l:List TP)(m i:Nat):Nat:=if i<l.length then(l.getD i bG).2 else m
@[reducible] def mY (e:Int) (at_:Nat):SV:= .iface 28 (.agg [.int .i64 e,.int .i64 at_])
theorem cR(e:Int)(a:Nat):aL (mY e a):= .iface _ (.agg (by simp only[List.mem_cons,List.not_mem_nil,or_false];rintro _ (rfl|rfl)<;>constructor))
theorem AX{l:List TP}{i:Nat}(h: ¬i<l.length):l.getD i bG=bG:=by simp[List.getD,List.getElem?_eq_none (Nat.le_of_not_lt h)]
theorem fJ: ∀x∈([]:List SV),aL x:=fun x h=>by simp at h
end Go.Proofs.YtegmnocpkgpgeaaGreatDoor
namespace Go.Proofs.YtegmnocpkgpgeaaGreatDoor
open Ab Go.RowKit
set_option maxRecDepth 100000
set_option maxHeartbeats 4000000
attribute [local irreducible] aS bH
section
variable {l:List TP} {m e:Nat}
theorem wZ(i:Nat):fU Tryz.prog 150 [] (gv l i m e) (.ret (iF (l.getD i bG))) (gv l i m e):=by
 refine⟨fJ,bE ..,bE ..,nZ _,Rx.call mixed rfl ?_⟩;by_cases h:i<l.length
 ·have hd:decide ((i:Int)<(l.length:Int))=true:=decide_eq_true (by omega)
  iterate 12 all_goals ((try conv=>whnf);try first|(with_reducible first|refine zY ?_|refine zN ?_|refine zT ?_|refine br (fun _=> ?_) (fun _=> ?_)|refine⟨rfl,?_⟩))
  exact vi (.lit (nZ _)) rfl
 ·have hd:decide ((i:Int)<(l.length:Int))=false:=decide_eq_false (by omega)
  rw[AX h];iterate 12 all_goals ((try conv=>whnf);try first|(with_reducible first|refine zY ?_|refine zN ?_|refine zT ?_|refine br (fun _=> ?_) (fun _=> ?_)|refine⟨rfl,?_⟩))
  exact vi (.lit (nZ bG)) rfl
theorem Iw(i:Nat):fU Tryz.prog 151 [] (gv l i m e) (.ret (.int .i64 (dG l m i:Nat))) (gv l i m e):=by
 refine⟨fJ,bE ..,bE ..,.int _ _,RA.call mixed rfl ?_⟩;by_cases h:i<l.length
 ·have hd:decide ((i:Int)<(l.length:Int))=true:=decide_eq_true (by omega)
  rw[dG,if_pos h];iterate 12 all_goals ((try conv=>whnf);try first|(with_reducible first|refine zY ?_|refine zN ?_|refine zT ?_|refine br (fun _=> ?_) (fun _=> ?_)|refine⟨rfl,?_⟩))
  exact vi (.lit (.int _ _)) rfl
 ·have hd:decide ((i:Int)<(l.length:Int))=false:=decide_eq_false (by omega)
  rw[dG,if_neg h];iterate 12 all_goals ((try conv=>whnf);try first|(with_reducible first|refine zY ?_|refine zN ?_|refine zT ?_|refine br (fun _=> ?_) (fun _=> ?_)|refine⟨rfl,?_⟩))
  exact vi (.lit (.int _ _)) rfl
theorem lA(er:Int)(i:Nat):fU Tryz.prog 98 [.int .i64 er] (gv l i m e) (.eY (mY er (dG l m i))) (gv l i m e):=by
 refine⟨di (.int _ _),bE ..,bE ..,cR _ _,Vn.call mixed rfl ?_⟩;have c:=Iw (l:=l) (m:=m) (e:=e) i;iterate 8 all_goals ((try conv=>whnf);try first|(with_reducible first|refine zY ?_|refine zN ?_|refine zT ?_|refine br (fun _=> ?_) (fun _=> ?_)|refine⟨rfl,?_⟩)|(refine c.call rfl ?_))
 exact AW (cR _ _)
theorem KZ(s:List UInt8)(i:Nat):fU Tryz.prog 97 [.str s] (gv l i m e) (.ret (.bool (dY (aO l) s i))) (gv l i m e):=by
 refine⟨di (.str _),bE ..,bE ..,.bool _,Vm.call mixed rfl ?_⟩;have c:=wZ (l:=l) (m:=m) (e:=e) i;iterate 20 all_goals ((try conv=>whnf);try first|(with_reducible first|refine zY ?_|refine zN ?_|refine zT ?_|refine br (fun _=> ?_) (fun _=> ?_)|refine⟨rfl,?_⟩)|(refine c.call rfl ?_))
 all_goals
  refine vi ?_ rfl;rw[show dY (aO l) s i=(((l.getD i bG).1.k==1||(l.getD i bG).1.k==4)&&(l.getD i bG).1.t==s) from rfl];simp only[*,Bool.true_or,Bool.or_true,Bool.false_or,Bool.or_self,Bool.true_and,Bool.false_and];exact .lit (.bool _)
end
end Go.Proofs.YtegmnocpkgpgeaaGreatDoor
