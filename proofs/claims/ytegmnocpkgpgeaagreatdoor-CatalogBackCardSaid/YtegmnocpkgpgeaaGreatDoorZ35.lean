/- Parts of the proof of PCatalogBack, one behind the other, with short names. -/
import Derived.Test.YtegmnocpkgpgeaaGreatDoorZ34
set_option linter.unusedVariables false
set_option linter.unusedSimpArgs false
namespace Go.Proofs.YtegmnocpkgpgeaaGreatDoor
open Ab Go.RowKit
set_option maxRecDepth 100000
set_option maxHeartbeats 8000000
attribute [local irreducible] aS bH
section
@[reducible] def exC (x:Ex):List SV:=[.int .u8 x.op,.int .u8 x.va.k,.int .i64 x.va.i,.str x.va.s,.str x.tb,.str x.nm,.int .i64 x.slot,.int .u8 x.kd,sM (sN x.args)]
@[reducible] def xB (x:Ex):SV:= .agg (exC x)
theorem Lm(x:Ex):KY x=xB x:=by cases x;rw[KY]
theorem aN(x:Ex):aL (xB x):=Lm x▸NR x
def GVa(v:Va):Prop:=(v.k=0/\v.i=0/\v.s=[])\/(v.k=1/\(v.i=0\/v.i=1)/\v.s=[])\/(v.k=2/\ -9223372036854775808<=v.i/\v.i<=9223372036854775807/\v.s=[])\/(v.k=3/\v.i=0/\v.s.length<=64)
inductive fO(G:List UInt8->Prop):Ex->Prop
 |lit {v:Va} (h:GVa v):fO G (E4 v)
 |col {tb nm:List UInt8} (h:G nm) (h2:tb=[]\/G tb):fO G (So tb nm)
 |cnt:fO G (E5 21 [])
 |one {op:Int} {x:Ex} (h:17<=op/\op<=25/\op≠21) (hx:fO G x):fO G (E5 op [x])
 |two {op:Int} {x y:Ex} (h:3<=op/\op<=16) (hx:fO G x) (hy:fO G y):fO G (E5 op [x,y])
theorem ug{A:Heap}{op k n slot kd:Int}{t tb nm:List UInt8}{v:SV}{args:List Ex}(hv:bA A v (sM (sN args))):bA A (.agg [.int .u8 op,.int .u8 k,.int .i64 n,.str t,.str tb,.str nm,.int .i64 slot,.int .u8 kd,v]) (xB (.mk op ⟨k,n,t⟩ tb nm slot kd args)):=Lm (.mk op ⟨k,n,t⟩ tb nm slot kd args)▸NU hv
theorem Bd{A:Heap}(x:Ex):bA A (xB x) (KY x):=by rw[Lm];exact .lit (aN x)
theorem Be{A:Heap}{i g:Nat}{op:Int}{cap:Option Nat}{x:Ex}{sk:Sk}(ho:A.obj i=some (.vec g 9 [xB x] sk):=by rfl):bA A (.agg [.int .u8 op,.int .u8 0,.int .i64 0,.str [],.str [],.str [],.int .i64 0,.int .u8 0,.sl i g 9 0 1 cap]) (xB (E5 op [x])):=
 ug (NS (x:=x) ho (Bd x))
theorem Ln{A:Heap}{i g:Nat}{op:Int}{cap:Option Nat}{x y:Ex}{sk:Sk}(ho:A.obj i=some (.vec g 9 [xB x,xB y] sk):=by rfl):bA A (.agg [.int .u8 op,.int .u8 0,.int .i64 0,.str [],.str [],.str [],.int .i64 0,.int .u8 0,.sl i g 9 0 2 cap]) (xB (E5 op [x,y])):=
 ug (NT (x:=x) (y:=y) ho (Bd x) (Bd y))
theorem Lo(k n:Int)(t:List UInt8):aj Tryz.prog 256 [.agg [.int .u8 k,.int .i64 n,.str t]] (xB (E4 ⟨k,n,t⟩)):=by
 refine aG (di (.agg (by simp only[List.mem_cons,List.not_mem_nil,or_false];rintro _ (rfl|rfl|rfl)<;>constructor))) (Sh.call mixed rfl ?_);iterate 6 all_goals ((try conv=>whnf);try first|(with_reducible first|refine zY ?_|refine zN ?_|refine zT ?_|refine br (fun _=> ?_) (fun _=> ?_)|refine⟨rfl,?_⟩))
 exact⟨_,rfl,ug sO⟩
theorem Fm{n:Nat}(h:n<=65536):IntKind.i64.wrap (((n+1:Nat):Int)-1)=(n:Int):=by rw[CS (by omega) (by omega)];omega
section
variable {l:List TP} {m e:Nat} {G:List UInt8->Prop}
abbrev vj(l:List TP)(m e:Nat)(G:List UInt8->Prop)(fn:FuncId)(f:Nat->bB Ex):Prop:=Rd l m e fn [] xB (fO G) f
theorem uh(hl:ig l G):vj l m e G 159 (Iu (aO l) (kX bC)):=jd fJ fun i hi=>RH.call mixed rfl (by
 have c:=gj (m:=m) (e:=e) hl;have qV:=hl.len;iterate 24 all_goals ((try conv=>whnf);try first|(with_reducible first|refine zY ?_|refine zN ?_|refine zT ?_|refine br (fun _=> ?_) (fun _=> ?_)|refine⟨rfl,?_⟩)|(refine c.go (fun x j _ _ _ _=> ?_) (fun er j _ _=> ?_))|(refine eI (fun _ _=> ?_) (fun _=> ?_))|(exact bW (by simp only[*,Iu,bB.then,↓reduceIte,Bool.false_eq_true])))
 all_goals exact bJ (by simp only[*,Iu,bB.then,↓reduceIte,Bool.false_eq_true];rfl) (.col (by assumption) (by first|exact .inl rfl|exact .inr (by assumption))) (ug sO) (aN _))
theorem SF(hl:ig l G)(he:e<=40){dn:Option Lv}(h0:dn=none->e=40)(h1: ∀L,dn=some L->e<40/\vj l m (e+1) G 207 L.KW){VE:Nat->bB Ex}(hc:vj l m e G 228 VE):
  vj l m e G 207 (Fa (aO l) dn VE):=jd fJ fun i hi=>R4.call mixed rfl (by
 have qV:=hl.len;cases dn with
 |none=>
  have hq:((e:Int)==40)=true:=by rw[h0 rfl];rfl
  iterate 24 all_goals ((try conv=>whnf);try first|(with_reducible first|refine zY ?_|refine zN ?_|refine zT ?_|refine br (fun _=> ?_) (fun _=> ?_)|refine⟨rfl,?_⟩)|(refine sS (fun _ _=> ?_) (fun _=> ?_))|(refine hc.go (fun x j _ _ _ _=> ?_) (fun er j _ _=> ?_))|(refine tV.call mixed rfl ?_)|(refine gP ?_)|(exact bW (by simp only[*,Fa,fk,↓reduceIte,Bool.false_eq_true])))
  all_goals exact bJ (by simp only[*,Fa,fk,↓reduceIte,Bool.false_eq_true];rfl) (by assumption) (.lit (aN _)) (aN _)
 |some L=>
  obtain⟨hlt2,hn⟩:=h1 L rfl;have hq:((e:Int)==40)=false:=by rw[beq_eq_false_iff_ne];omega
  iterate 40 all_goals ((try conv=>whnf);try first|(with_reducible first|refine zY ?_|refine zN ?_|refine zT ?_|refine br (fun _=> ?_) (fun _=> ?_)|refine⟨rfl,?_⟩)|(refine sS (fun _ _=> ?_) (fun _=> ?_))|(refine hc.go (fun x j _ _ _ _=> ?_) (fun er j _ _=> ?_))|(refine tV.call mixed rfl ?_)|(refine R8.call mixed rfl ?_)|(refine hn.go (fun x j _ _ _ _=> ?_) (fun er j _ _=> ?_))|(exact bW (by simp only[*,Fa,fk,bB.then,↓reduceIte,Bool.false_eq_true])))
  all_goals first
   |exact bJ (by simp only[*,Fa,fk,bB.then,↓reduceIte,Bool.false_eq_true];rfl) (by assumption) (.lit (aN _)) (aN _)
   |exact bJ (by simp only[*,Fa,fk,bB.then,↓reduceIte,Bool.false_eq_true];rfl) (.one (by decide) (by assumption)) Be (aN _) (hd:=Fm (by omega)))
theorem Lp(hl:ig l G)(he:e<=40){dn:Option Lv}(h0:dn=none->e=40)(h1: ∀L,dn=some L->e<40/\vj l m (e+1) G 254 L.unary){PT:Nat->bB Ex}(hc:vj l m e G 255 PT):
  vj l m e G 254 (mX (aO l) dn PT):=jd fJ fun i hi=>Sf.call mixed rfl (by
 have qV:=hl.len;have e7:IntKind.i64.wrap ((i:Int)+1)=((i+1:Nat):Int):=bf (by omega);have Zn:IntKind.i64.wrap ((i:Int)+2)=((i+2:Nat):Int):=by rw[CS (by omega) (by omega)];omega
 have e71:IntKind.i64.wrap (IntKind.i64.wrap ((i:Int)+2)-1)=((i+1:Nat):Int):=by rw[Zn,CS (by omega) (by omega)];omega
 have et:(IntKind.i64.wrap ((i:Int)+1)).toNat=i+1:=by rw[e7];rfl
 have et2:(IntKind.i64.wrap (IntKind.i64.wrap ((i:Int)+2)-1)).toNat=i+1:=by rw[e71];rfl
 have hk2:((l.getD (IntKind.i64.wrap ((i:Int)+1)).toNat bG).1.k==2)=((aO l (i+1)).k==2):=by rw[et]
 have hw: ∀n:Int,-9223372036854775808<=IntKind.i64.wrap n/\IntKind.i64.wrap n<=9223372036854775807:=fun n=>by rw[IntKind.wrap_i64];omega
 cases hkk:(aO l (i+1)).k==2 with
 |true=>
  have hlt:=ie hkk (by decide);have hd:decide (IntKind.i64.wrap ((i:Int)+1)<(l.length:Int))=true:=decide_eq_true (by rw[e7];omega);rw[hkk]at hk2;iterate 40 all_goals ((try conv=>whnf);try first|(with_reducible first|refine zY ?_|refine zN ?_|refine zT ?_|refine br (fun _=> ?_) (fun _=> ?_)|refine⟨rfl,?_⟩|refine aj.call (Lo _ _ _) ?_)|(refine sS (fun _ _=> ?_) (fun _=> ?_))|(refine hc.go (fun x j _ _ _ _=> ?_) (fun er j _ _=> ?_))|(exact bW (by simp only[*,mX,fk,bB.then,↓reduceIte,Bool.false_eq_true])))
  all_goals first
   |exact bJ (by simp only[*,mX,↓reduceIte,Bool.false_eq_true];rfl) (by assumption) (.lit (aN _)) (aN _)
   |refine bJ (x:=E4 ⟨2,IntKind.i64.wrap (IntKind.u64.wrap (0-((l.getD (i+1) bG).1.n:Int))),[]⟩) ?_ (fO.lit (.inr (.inr (.inl ⟨rfl,(hw _).1,(hw _).2,rfl⟩)))) ?_ (aN _) (hz:=Zn)
    ·simp only[*,mX,↓reduceIte,Bool.false_eq_true]
    ·rw[et2];exact .lit (aN _)
 |false=>
  rw[hkk]at hk2;cases dn with
  |none=>
   have hq:((e:Int)==40)=true:=by rw[h0 rfl];rfl
   iterate 40 all_goals ((try conv=>whnf);try first|(with_reducible first|refine zY ?_|refine zN ?_|refine zT ?_|refine br (fun _=> ?_) (fun _=> ?_)|refine⟨rfl,?_⟩)|(refine sS (fun _ _=> ?_) (fun _=> ?_))|(refine hc.go (fun x j _ _ _ _=> ?_) (fun er j _ _=> ?_))|(refine tV.call mixed rfl ?_)|(refine gP ?_)|(exact bW (by simp only[*,mX,fk,bB.then,↓reduceIte,Bool.false_eq_true])))
   all_goals exact bJ (by simp only[*,mX,↓reduceIte,Bool.false_eq_true];rfl) (by assumption) (.lit (aN _)) (aN _)
  |some L=>
   obtain⟨hlt2,hn⟩:=h1 L rfl;have hq:((e:Int)==40)=false:=by rw[beq_eq_false_iff_ne];omega
   iterate 50 all_goals ((try conv=>whnf);try first|(with_reducible first|refine zY ?_|refine zN ?_|refine zT ?_|refine br (fun _=> ?_) (fun _=> ?_)|refine⟨rfl,?_⟩)|(refine sS (fun _ _=> ?_) (fun _=> ?_))|(refine hc.go (fun x j _ _ _ _=> ?_) (fun er j _ _=> ?_))|(refine tV.call mixed rfl ?_)|(refine Si.call mixed rfl ?_)|(refine hn.go (fun x j _ _ _ _=> ?_) (fun er j _ _=> ?_))|(exact bW (by simp only[*,mX,fk,bB.then,↓reduceIte,Bool.false_eq_true])))
   all_goals first
    |exact bJ (by simp only[*,mX,↓reduceIte,Bool.false_eq_true];rfl) (by assumption) (.lit (aN _)) (aN _)
    |exact bJ (by simp only[*,mX,fk,bB.then,↓reduceIte,Bool.false_eq_true];rfl) (.one (by decide) (by assumption)) Be (aN _) (hd:=Fm (by omega)))
theorem SG(hl:ig l G){L:Lv}(hx:vj l m e G 155 L.expr)(op:Int)(hop:22<=op/\op<=25){i k n:Nat}{lh:List (Nat×ai)}{R:bu->Heap->Prop}{z d:Int}(hi:i<l.length)
  (hok: ∀x j,E9 (aO l) L op i= .ok x j->fO G x->i<=j->j<=l.length->R (.ret (xB x)) ⟨n,bt lh k (gv l j m e)⟩)(eO: ∀er j,E9 (aO l) L op i= .bad er j->er≠0->R (.eY (mY er (dG l m j))) ⟨n,cE (fun j=>Nat.beq j k) lh⟩)
  (ho:ak lh k=some (Ll l z m d):=by rfl)(hz:z=(i:Nat):=by with_reducible rfl)(hd:d=(e:Nat):=by first|with_reducible rfl|exact bf (by omega)):aC Tryz.prog 260 [.ref k 0 0 0,.int .u8 op] ⟨n,lh⟩ R:=by
 subst hz;subst hd
 have key:EC Tryz.prog 260 [.int .u8 op] (gv l i m e) (SD l m e xB (fO G) (E9 (aO l) L op) i):=⟨di (.int _ _),bE ..,Sl.call mixed rfl (by
  have qV:=hl.len;iterate 40 all_goals ((try conv=>whnf);try first|(with_reducible first|refine zY ?_|refine zN ?_|refine zT ?_|refine br (fun _=> ?_) (fun _=> ?_)|refine⟨rfl,?_⟩)|(refine hx.go (fun x j _ _ _ _=> ?_) (fun er j _ _=> ?_))|(refine dU (fun _ _=> ?_) (fun _=> ?_))|(refine eI (fun _ _=> ?_) (fun _=> ?_))|(exact bW (by simp only[*,E9,aM,bB.then,Bool.true_and,Bool.false_and,↓reduceIte,Bool.false_eq_true])))
  all_goals first
   |exact bJ (by simp only[*,E9,aM,bB.then,Bool.true_and,Bool.false_and,↓reduceIte,Bool.false_eq_true];rfl) .cnt (ug sO) (aN _)
   |exact bJ (by simp only[*,E9,aM,bB.then,Bool.true_and,Bool.false_and,↓reduceIte,Bool.false_eq_true];rfl) (.one (by omega) (by assumption)) Be (aN _))⟩
 refine key.go ho (fun v o' hq=> ?_) fun v o' hq=> ?_
 ·cases hq with|ok hf hg h1 h2=>exact hok _ _ hf hg h1 h2
 ·cases hq with|bad hf he=>exact eO _ _ hf he
end
end
section
section
variable {l:List TP} {m e:Nat} {G:List UInt8->Prop}
theorem Oc(hl:ig l G)(he:e<=40){dn:Option Lv}(h0:dn=none->e=40)(h1: ∀L,dn=some L->e<40/\vj l m (e+1) G 155 L.expr):
  vj l m e G 255 (ez (aO l) (kX bC) dn):=jd fJ fun i hi=>Sg.call mixed rfl (by
 have qV:=hl.len;have Bf:=uh (m:=m) (e:=e) hl;have Zo:=hl.tx i;have Bz:((l.getD i bG).1.k==1)=true->i<l.length:=fun h=>ie h (by decide)
 have W0:((l.getD i bG).1.k==2)=true->i<l.length:=fun h=>ie h (by decide)
 have Zp:((l.getD i bG).1.k==3)=true->i<l.length:=fun h=>ie h (by decide)
 have key:(9223372036854775807<(l.getD i bG).1.n)=(decide ((9223372036854775807:Int)<((l.getD i bG).1.n:Int))=true):=propext ⟨fun h=>decide_eq_true (by omega),fun h=>by have:=of_decide_eq_true h;omega⟩
 have e5:decide ((9223372036854775807:Int)<((l.getD i bG).1.n:Int))=false-> -9223372036854775808<=((l.getD i bG).1.n:Int)/\((l.getD i bG).1.n:Int)<=9223372036854775807:=fun h=>by
  have:=of_decide_eq_false h;omega
 have e6:decide ((9223372036854775807:Int)<((l.getD i bG).1.n:Int))=false->IntKind.i64.wrap ((l.getD i bG).1.n:Int)=((l.getD i bG).1.n:Int):=fun h=>by
  have:=of_decide_eq_false h;exact CS (by omega) (by omega)
 cases dn with
 |none=>
  have hq:((e:Int)==40)=true:=by rw[h0 rfl];rfl
  iterate 60 all_goals ((try conv=>whnf);try first|(with_reducible first|refine zY ?_|refine zN ?_|refine zT ?_|refine br (fun _=> ?_) (fun _=> ?_)|refine⟨rfl,?_⟩|refine aj.call (Lo _ _ _) ?_)|(refine j9 ?_)|(refine sS (fun _ _=> ?_) (fun _=> ?_))|(refine Bf.go (fun x j _ _ _ _=> ?_) (fun er j _ _=> ?_))|(refine KR.call mixed rfl ?_)|(refine KL.call mixed rfl ?_)|(refine tV.call mixed rfl ?_)|(refine gP ?_)|(exact bW (by simp only[ez,ez.gL,fq,find?,iA,fk,aM,bB.then,aO, *,Bool.false_eq_true,↓reduceIte])))
  all_goals first
   |exact bJ (by simp only[ez,ez.gL,fq,find?,iA,fk,aM,bB.then,aO, *,Bool.false_eq_true,↓reduceIte]<;>rfl) (by assumption) (.lit (aN _)) (aN _)
   |exact bJ (by simp only[ez,ez.gL,fq,find?,iA,fk,aM,bB.then,aO, *,Bool.false_eq_true,↓reduceIte]<;>rfl) (fO.lit (.inl ⟨rfl,rfl,rfl⟩)) (.lit (aN _)) (aN _) (h2:=Bz (by assumption))
   |exact bJ (by simp only[ez,ez.gL,fq,find?,iA,fk,aM,bB.then,aO, *,Bool.false_eq_true,↓reduceIte]<;>rfl) (fO.lit (.inr (.inl ⟨rfl,.inl rfl,rfl⟩))) (.lit (aN _)) (aN _) (h2:=Bz (by assumption))
   |exact bJ (by simp only[ez,ez.gL,fq,find?,iA,fk,aM,bB.then,aO, *,Bool.false_eq_true,↓reduceIte]<;>rfl) (fO.lit (.inr (.inl ⟨rfl,.inr rfl,rfl⟩))) (.lit (aN _)) (aN _) (h2:=Bz (by assumption))
   |exact bJ (by simp only[ez,ez.gL,fq,find?,iA,fk,aM,bB.then,aO, *,Bool.false_eq_true,↓reduceIte]<;>rfl) (fO.lit (.inr (.inr (.inr ⟨rfl,rfl,Zo (by assumption)⟩)))) (.lit (aN _)) (aN _) (h2:=Zp (by assumption))
   |exact bJ (by simp only[ez,ez.gL,fq,find?,iA,fk,aM,bB.then,aO, *,Bool.false_eq_true,↓reduceIte]<;>rfl) (fO.lit (.inr (.inr (.inl ⟨rfl,(e5 (by assumption)).1,(e5 (by assumption)).2,rfl⟩)))) (by rw[e6 (by assumption)];exact .lit (aN _)) (aN _) (h2:=W0 (by assumption))
 |some L=>
  obtain⟨hlt2,hx⟩:=h1 L rfl;have hq:((e:Int)==40)=false:=by rw[beq_eq_false_iff_ne];omega
  iterate 70 all_goals ((try conv=>whnf);try first|(with_reducible first|refine zY ?_|refine zN ?_|refine zT ?_|refine br (fun _=> ?_) (fun _=> ?_)|refine⟨rfl,?_⟩|refine aj.call (Lo _ _ _) ?_)|(refine j9 ?_)|(refine sS (fun _ _=> ?_) (fun _=> ?_))|(refine Bf.go (fun x j _ _ _ _=> ?_) (fun er j _ _=> ?_))|(refine KR.call mixed rfl ?_)|(refine KL.call mixed rfl ?_)|(refine tV.call mixed rfl ?_)|(refine Sj.call mixed rfl ?_)|(refine Sn.call mixed rfl ?_)|(refine SG hl hx _ (by decide) (Bz (by assumption)) (fun x j _ _ _ _=> ?_) (fun er j _ _=> ?_))|(refine gP ?_)|(refine dU (fun _ _=> ?_) (fun _=> ?_))|(refine hx.go (fun x j _ _ _ _=> ?_) (fun er j _ _=> ?_))|(exact Bool.noConfusion (Eq.trans (Eq.symm ‹dY (aO l) [40] i=true›) ‹dY (aO l) [40] i=false›))|(exact bW (by simp only[ez,ez.gL,fq,find?,iA,fk,aM,bB.then,aO, *,Bool.false_eq_true,↓reduceIte])))
  all_goals first
   |exact bJ (by simp only[ez,ez.gL,fq,find?,iA,fk,aM,bB.then,aO, *,Bool.false_eq_true,↓reduceIte]<;>rfl) (by assumption) (.lit (aN _)) (aN _) (hd:=Fm (by omega))
   |first
   |exact bJ (by simp only[ez,ez.gL,fq,find?,iA,fk,aM,bB.then,aO, *,Bool.false_eq_true,↓reduceIte]<;>rfl) (by assumption) (.lit (aN _)) (aN _)
   |exact bJ (by simp only[ez,ez.gL,fq,find?,iA,fk,aM,bB.then,aO, *,Bool.false_eq_true,↓reduceIte]<;>rfl) (fO.lit (.inl ⟨rfl,rfl,rfl⟩)) (.lit (aN _)) (aN _) (h2:=Bz (by assumption))
   |exact bJ (by simp only[ez,ez.gL,fq,find?,iA,fk,aM,bB.then,aO, *,Bool.false_eq_true,↓reduceIte]<;>rfl) (fO.lit (.inr (.inl ⟨rfl,.inl rfl,rfl⟩))) (.lit (aN _)) (aN _) (h2:=Bz (by assumption))
   |exact bJ (by simp only[ez,ez.gL,fq,find?,iA,fk,aM,bB.then,aO, *,Bool.false_eq_true,↓reduceIte]<;>rfl) (fO.lit (.inr (.inl ⟨rfl,.inr rfl,rfl⟩))) (.lit (aN _)) (aN _) (h2:=Bz (by assumption))
   |exact bJ (by simp only[ez,ez.gL,fq,find?,iA,fk,aM,bB.then,aO, *,Bool.false_eq_true,↓reduceIte]<;>rfl) (fO.lit (.inr (.inr (.inr ⟨rfl,rfl,Zo (by assumption)⟩)))) (.lit (aN _)) (aN _) (h2:=Zp (by assumption))
   |exact bJ (by simp only[ez,ez.gL,fq,find?,iA,fk,aM,bB.then,aO, *,Bool.false_eq_true,↓reduceIte]<;>rfl) (fO.lit (.inr (.inr (.inl ⟨rfl,(e5 (by assumption)).1,(e5 (by assumption)).2,rfl⟩)))) (by rw[e6 (by assumption)];exact .lit (aN _)) (aN _) (h2:=W0 (by assumption)))
end
end
end Go.Proofs.YtegmnocpkgpgeaaGreatDoor
namespace Go.Proofs.YtegmnocpkgpgeaaGreatDoor
open Ab Go.RowKit
set_option maxRecDepth 100000
set_option maxHeartbeats 8000000
attribute [local irreducible] aS
section
section
variable {l:List TP} {m e:Nat} {G:List UInt8->Prop}
def Fo:Nat->By->List (SV×SV×Nat)
 |_,[]=>[]
 |q,(w,op)::r=>(.str w,.int .u8 op,q)::Fo (q+1) r
theorem lZ{t:List UInt8}{K:Option (Nat×SV)->Prop}: ∀ {ops:By} {q j:Nat},(∀ op p,find? ops t=some op->K (some (p,.int .u8 op)))->(find? ops t=none->K none)->nD (.str t) (Fo q ops) j K
 | [],q,j,h1,h2=>h2 rfl
 |(w,op)::r,q,j,h1,h2=>by
  show@Bool.rec (fun _=>Prop) (nD (.str t) (Fo (q+1) r) (j+1) K) (K (some (j,.int .u8 op))) (t==w);cases hb:(t==w)with
  |true=>exact h1 op j (by rw[find?,hb];rfl)
  |false=>exact lZ (fun o p h=>h1 o p (by rw[find?,hb];exact h)) (fun h=>h2 (by rw[find?,hb];exact h))
@[reducible] def Od:ai:= .vec 0 9 [.agg [.int .u8 0,.int .u8 0,.int .i64 0,.str [],.str [],.str [],.int .i64 0,.int .u8 0,.af]] ⟨false,some 89⟩
theorem xC{ops:By}{part:Nat->bB Ex}{f i:Nat}{x:Ex}(h:find? ops (aO l i).t=none\/(((l.getD i bG).1.k !=1)=true/\((l.getD i bG).1.k !=4)=true)):mF (aO l) ops part f x i= .ok x i:=by
 cases f with
 |zero=>rfl
 |succ f=>
  rw[mF,show KU ops (aO l i)=none from ?_];unfold KU;rcases h with h|⟨h1,h2⟩
  ·rw[h];simp
  ·rw[if_neg]
   simp only[bne_iff_ne]at h1 h2;simp[h1,h2]
theorem Lq{ops:By}{part:Nat->bB Ex}{f i:Nat}{x:Ex}{op:Int}(h:find? ops (aO l i).t=some op)(hk:((l.getD i bG).1.k !=1)=false\/((l.getD i bG).1.k !=4)=false)(hf:l.length<=i+f):
  i<l.length/\ ∃f',f=f'+1/\mF (aO l) ops part f x i=(part (i+1)).then fun y j=>mF (aO l) ops part f' (E5 op [x,y]) j:=by
 simp only[bne_eq_false_iff_eq]at hk
 have hlt:i<l.length:=by
  rcases hk with h|h
  ·exact ie (k:=1) (beq_iff_eq.2 h) (by decide)
  ·exact ie (k:=4) (beq_iff_eq.2 h) (by decide)
 obtain⟨f',rfl⟩: ∃f',f=f'+1:=⟨f-1,by omega⟩;refine⟨hlt,f',rfl,?_⟩;rw[mF,show KU ops (aO l i)=some op from ?_];unfold KU;rw[if_pos,h];rcases hk with h|h<;>simp[h]
def SH(l:List TP)(m e:Nat)(G:List UInt8->Prop)(ops:By)(cl i:Nat)(res:bB Ex)(r:bu)(h':Heap):Prop:=
 (∃ x j nx,res= .ok x j/\fO G x/\i<=j/\j<=l.length/\r= .ret (xB x)/\h'=⟨nx,[(2,.map (Fo 0 ops) cl),(1,Od),(0,gv l j m e)]⟩)\/ ∃er j,res= .bad er j/\er≠0/\r= .eY (mY er (dG l m j))
theorem sW{ops:By}{part:Nat->bB Ex}{g:FuncId}(hl:ig l G)(Yo: ∀t op,find? ops t=some op->3<=op/\op<=16)(hg:eS Tryz.prog g=true)(hp:vj l m e G g part){cl i:Nat}(hi:i<=l.length):
  aC Tryz.prog 189 [.ref 0 0 0 0,.func (.func g) [.ref 0 0 0 0] [],.cW 2 0] ⟨3,[(2,.map (Fo 0 ops) cl),(1,Od),(0,gv l i m e)]⟩ (SH l m e G ops cl i (kP (aO l) l.length ops part i)):=by
 have qV:=hl.len;refine aC.tidy (RT.call mixed rfl ?_);iterate 20 all_goals ((try conv=>whnf);try first|(with_reducible first|refine zY ?_|refine zN ?_|refine zT ?_|refine br (fun _=> ?_) (fun _=> ?_)|refine⟨rfl,?_⟩)|(refine hp.go (fun x j _ _ _ _=> ?_) (fun er j _ _=> ?_))|(exact⟨fun _=>false,_,_,.inl rfl,.refl,.inr ⟨_,_,by simp only[kP, *,bB.then],by assumption,rfl⟩⟩))
 rename_i hf hx h1 h2
 refine zy (σ:={s:Nat×Ex×Nat // s.2.2<=l.length/\i<=s.2.2/\l.length<=s.2.2+s.1/\fO G s.2.1/\kP (aO l) l.length ops part i=mF (aO l) ops part s.1 s.2.1 s.2.2})
  (fun s=>[(0,.ref 0 0 0 0),(1,.func (.func g) [.ref 0 0 0 0] []),(2,.cW 2 0),(6,.ref 3 0 0 0),(7,.ref 4 0 0 0)])
  (fun s=>⟨5,[(4,.vec 0 9 [xB s.1.2.1] ⟨false,some 89⟩),(3,Od),(2,.map (Fo 0 ops) cl),(1,Od),(0,gv l s.1.2.2 m e)]⟩)
  (fun s=>l.length-s.1.2.2) (fun _=>5) (fun _=>Nat.le_refl 5) ?_ ⟨(l.length,x,j),h2,h1,Nat.le_add_left _ _,hx,by rw[kP,hf];rfl⟩
 rintro⟨⟨f,x,i'⟩,q1,q2,q3,q4,q5⟩;dsimp only at q1 q2 q3 q4 q5 ⊢;iterate 30 all_goals ((try conv=>whnf);try first|(with_reducible first|refine zY ?_|refine zN ?_|refine zT ?_|refine br (fun _=> ?_) (fun _=> ?_)|refine⟨rfl,?_⟩)|(refine j9 ?_)|(refine lZ (fun op p _=> ?_) (fun _=> ?_)))
 all_goals first
  |exact⟨fun j=>Nat.ble 3 j,_,_,.inl rfl,.refl,.inl ⟨x,i',_,q5.trans (xC (.inl (by assumption))),q4,q2,q1,rfl,rfl⟩⟩
  |exact⟨fun j=>Nat.ble 3 j,_,_,.inl rfl,.refl,.inl ⟨x,i',_,q5.trans (xC (.inr ⟨by assumption,by assumption⟩)),q4,q2,q1,rfl,rfl⟩⟩
  |obtain⟨hlt,f',hf',hgo⟩:=Lq (part:=part) (f:=f) (x:=x) (by assumption) (by first|exact .inl (by assumption)|exact .inr (by assumption)) q3
 iterate 20 all_goals ((try conv=>whnf);try first|(with_reducible first|refine zY ?_|refine zN ?_|refine zT ?_|refine br (fun _=> ?_) (fun _=> ?_)|refine⟨rfl,?_⟩)|(refine hp.go (fun y j hy _ _ _=> ?_) (fun er j hy _=> ?_))|(exact⟨fun _=>false,_,_,.inl rfl,.refl,.inr ⟨_,_,q5.trans (hgo.trans (by rw[hy];rfl)),by assumption,rfl⟩⟩))
 all_goals
  refine⟨fun j=>Nat.beq j 6,_,_,bh,.cons (.same _) (.cons (oK Ln) .refl),?_⟩;iterate 12 all_goals ((try conv=>whnf);try first|(with_reducible first|refine zY ?_|refine zN ?_|refine zT ?_|refine br (fun _=> ?_) (fun _=> ?_)|refine⟨rfl,?_⟩))
  exact⟨⟨(f',E5 op [x,y],_),by assumption,by dsimp only;omega,by dsimp only;omega,.two (Yo _ _ (by assumption)) (by assumption) (by assumption),q5.trans (hgo.trans (by rw[hy];rfl))⟩,by dsimp only;omega,rfl,rfl⟩
end
end
end Go.Proofs.YtegmnocpkgpgeaaGreatDoor
