/- Parts of the proof of PCatalogBack, one behind the other, with short names. -/
import Derived.Test.YtegmnocpkgpgeaaGreatDoorZ35
import Derived.Test.YtegmnocpkgpgeaaGreatDoorZ33
set_option linter.unusedVariables false
set_option linter.unusedSimpArgs false
namespace Go.Proofs.YtegmnocpkgpgeaaGreatDoor
open Ab Go.RowKit
set_option maxRecDepth 100000
set_option maxHeartbeats 8000000
attribute [local irreducible] aS bH
section
section
variable {l:List TP} {m e:Nat} {G:List UInt8->Prop}
theorem vE{ops:By}(h:ops.all (fun p=>decide (3<=p.2/\p.2<=16))=true): ∀t op,find? ops t=some op->3<=op/\op<=16:=fun t op=>by
 induction ops with
 |nil=>intro q;cases q
 |cons p r ih=>
  rw[List.all_cons,Bool.and_eq_true]at h;rw[find?];split
  ·intro q;cases q;exact of_decide_eq_true h.1
  ·exact ih h.2
theorem Oe(hl:ig l G){part:Nat->bB Ex}(hp:vj l m e G 190 part):vj l m e G 155 (kP (aO l) l.length KV part):=jd fJ fun i hi=>RC.call mixed rfl (by
 iterate 20 all_goals ((try conv=>whnf);try first|(with_reducible first|refine zY ?_|refine zN ?_|refine zT ?_|refine br (fun _=> ?_) (fun _=> ?_)|refine⟨rfl,?_⟩)|(refine(sW (ops:=KV) (cl:=1) hl (vE rfl) rfl hp hi).mono fun r h' hh=> ?_))
 rcases hh with⟨x,j,nx,h1,h2,h3,h4,rfl,rfl⟩|⟨er,j,h1,he,rfl⟩
 ·iterate 20 all_goals ((try conv=>whnf);try first|(with_reducible first|refine zY ?_|refine zN ?_|refine zT ?_|refine br (fun _=> ?_) (fun _=> ?_)|refine⟨rfl,?_⟩))
  exact bJ h1 h2 (.lit (aN _)) (aN _)
 ·iterate 20 all_goals ((try conv=>whnf);try first|(with_reducible first|refine zY ?_|refine zN ?_|refine zT ?_|refine br (fun _=> ?_) (fun _=> ?_)|refine⟨rfl,?_⟩))
  exact bW h1)
theorem SI(hl:ig l G){part:Nat->bB Ex}(hp:vj l m e G 207 part):vj l m e G 190 (kP (aO l) l.length E6 part):=jd fJ fun i hi=>RU.call mixed rfl (by
 iterate 20 all_goals ((try conv=>whnf);try first|(with_reducible first|refine zY ?_|refine zN ?_|refine zT ?_|refine br (fun _=> ?_) (fun _=> ?_)|refine⟨rfl,?_⟩)|(refine(sW (ops:=E6) (cl:=1) hl (vE rfl) rfl hp hi).mono fun r h' hh=> ?_))
 rcases hh with⟨x,j,nx,h1,h2,h3,h4,rfl,rfl⟩|⟨er,j,h1,he,rfl⟩
 ·iterate 20 all_goals ((try conv=>whnf);try first|(with_reducible first|refine zY ?_|refine zN ?_|refine zT ?_|refine br (fun _=> ?_) (fun _=> ?_)|refine⟨rfl,?_⟩))
  exact bJ h1 h2 (.lit (aN _)) (aN _)
 ·iterate 20 all_goals ((try conv=>whnf);try first|(with_reducible first|refine zY ?_|refine zN ?_|refine zT ?_|refine br (fun _=> ?_) (fun _=> ?_)|refine⟨rfl,?_⟩))
  exact bW h1)
theorem SJ(hl:ig l G){part:Nat->bB Ex}(hp:vj l m e G 252 part):vj l m e G 244 (kP (aO l) l.length E7 part):=jd fJ fun i hi=>R9.call mixed rfl (by
 iterate 20 all_goals ((try conv=>whnf);try first|(with_reducible first|refine zY ?_|refine zN ?_|refine zT ?_|refine br (fun _=> ?_) (fun _=> ?_)|refine⟨rfl,?_⟩)|(refine(sW (ops:=E7) (cl:=3) hl (vE rfl) rfl hp hi).mono fun r h' hh=> ?_))
 rcases hh with⟨x,j,nx,h1,h2,h3,h4,rfl,rfl⟩|⟨er,j,h1,he,rfl⟩
 ·iterate 20 all_goals ((try conv=>whnf);try first|(with_reducible first|refine zY ?_|refine zN ?_|refine zT ?_|refine br (fun _=> ?_) (fun _=> ?_)|refine⟨rfl,?_⟩))
  exact bJ h1 h2 (.lit (aN _)) (aN _)
 ·iterate 20 all_goals ((try conv=>whnf);try first|(with_reducible first|refine zY ?_|refine zN ?_|refine zT ?_|refine br (fun _=> ?_) (fun _=> ?_)|refine⟨rfl,?_⟩))
  exact bW h1)
theorem Fp(hl:ig l G){part:Nat->bB Ex}(hp:vj l m e G 254 part):vj l m e G 252 (kP (aO l) l.length E8 part):=jd fJ fun i hi=>Sc.call mixed rfl (by
 iterate 20 all_goals ((try conv=>whnf);try first|(with_reducible first|refine zY ?_|refine zN ?_|refine zT ?_|refine br (fun _=> ?_) (fun _=> ?_)|refine⟨rfl,?_⟩)|(refine(sW (ops:=E8) (cl:=3) hl (vE rfl) rfl hp hi).mono fun r h' hh=> ?_))
 rcases hh with⟨x,j,nx,h1,h2,h3,h4,rfl,rfl⟩|⟨er,j,h1,he,rfl⟩
 ·iterate 20 all_goals ((try conv=>whnf);try first|(with_reducible first|refine zY ?_|refine zN ?_|refine zT ?_|refine br (fun _=> ?_) (fun _=> ?_)|refine⟨rfl,?_⟩))
  exact bJ h1 h2 (.lit (aN _)) (aN _)
 ·iterate 20 all_goals ((try conv=>whnf);try first|(with_reducible first|refine zY ?_|refine zN ?_|refine zT ?_|refine br (fun _=> ?_) (fun _=> ?_)|refine⟨rfl,?_⟩))
  exact bW h1)
theorem Fq(hl:ig l G){part:Nat->bB Ex}(hp:vj l m e G 244 part):vj l m e G 228 (Iv (aO l) part):=jd fJ fun i hi=>R7.call mixed rfl (by
 have qV:=hl.len;have Zq: ∀ {j},((l.getD j bG).1.k !=4)=false->((l.getD j bG).1.k==4)=true/\j<l.length:=fun h=>⟨by rw[bne_eq_false_iff_eq]at h;rw[h];rfl,ie (k:=4) (by rw[bne_eq_false_iff_eq]at h;rw[h];rfl) (by decide)⟩
 have eq4: ∀ {j},((l.getD j bG).1.k !=4)=false->((l.getD j bG).1.k==4)=true:=fun h=>(Zq h).1
 have ne4: ∀ {j},((l.getD j bG).1.k !=4)=true->((l.getD j bG).1.k==4)=false:=fun h=>by rw[beq_eq_false_iff_ne];exact bne_iff_ne.1 h
 iterate 50 all_goals ((try conv=>whnf);try first|(with_reducible first|refine zY ?_|refine zN ?_|refine zT ?_|refine br (fun _=> ?_) (fun _=> ?_)|refine⟨rfl,?_⟩)|(refine hp.go (fun x j _ _ _ _=> ?_) (fun er j _ _=> ?_) (hi:=hi))|(refine hp.go (fun x j _ _ _ _=> ?_) (fun er j _ _=> ?_) (hi:=(Zq (by assumption)).2))|(refine j9 ?_)|(refine eI (fun _ _=> ?_) (fun _=> ?_))|(refine dU (fun _ _=> ?_) (fun _=> ?_))|(refine Sb.call mixed rfl ?_)|(exact bW (by simp only[Iv,find?,wY,aM,bB.then,aO, *,Bool.false_eq_true,↓reduceIte])))
 all_goals first
  |exact bJ (by simp only[Iv,find?,wY,aM,bB.then,aO, *,Bool.false_eq_true,↓reduceIte]<;>rfl) (by assumption) (.lit (aN _)) (aN _)
  |exact bJ (by simp only[Iv,find?,wY,aM,bB.then,aO, *,Bool.false_eq_true,↓reduceIte]<;>rfl) (.one (by decide) (by assumption)) Be (aN _)
  |exact bJ (by simp only[Iv,find?,wY,aM,bB.then,aO, *,Bool.false_eq_true,↓reduceIte]<;>rfl) (.two (by decide) (by assumption) (by assumption)) Ln (aN _))
structure Yp(l:List TP)(m e:Nat)(G:List UInt8->Prop)(L:Lv):Prop where
 expr:vj l m e G 155 L.expr
 KW:vj l m e G 207 L.KW
 unary:vj l m e G 254 L.unary
theorem PU(hl:ig l G)(he:e<=40){dn:Option Lv}(h0:dn=none->e=40)(h1: ∀L,dn=some L->e<40/\Yp l m (e+1) G L):Yp l m e G (Sp (aO l) (kX bC) l.length dn):=by
 have c2:=Lp hl he h0 (fun L h=>⟨(h1 L h).1,(h1 L h).2.unary⟩) (Oc hl he h0 fun L h=>⟨(h1 L h).1,(h1 L h).2.expr⟩);have c6:=SF hl he h0 (fun L h=>⟨(h1 L h).1,(h1 L h).2.KW⟩) (Fq hl (SJ hl (Fp hl c2)));exact⟨Oe hl (SI hl c6),c6,c2⟩
theorem PV(hl:ig l G): ∀(d e:Nat),e+d=40->Yp l m e G (Yh (aO l) (kX bC) l.length d)
 |0,e,h=>PU hl (by omega) (fun _=>by omega) fun L h=>by cases h
 |d+1,e,h=>PU hl (by omega) (fun h=>by cases h) fun L h'=>by cases h';exact⟨by omega,PV hl d (e+1) (by omega)⟩
abbrev iP(l:List TP):Nat->bB Ex:=(Yh (aO l) (kX bC) l.length 40).expr
theorem iG(hl:ig l G):vj l m 0 G 155 (iP l):=(PV hl 40 0 rfl).expr
end
end
end Go.Proofs.YtegmnocpkgpgeaaGreatDoor
namespace Ab
open Go
section
section
variable {P:Program} {f:FuncId} {tgt:SV->ai} {ty tr:TypeId} {sz:Nat} {fl:Bool}
@[reducible] def Dv (tgt:SV->ai) (ty tr:TypeId) (sz:Nat) (o0:ai):Option (Nat×List SV)->Heap
  |none=>⟨3,[(2,tgt .af),(1,rz tr),(0,o0)]⟩
  |some (g,xs)=>⟨4,[(3,.vec g sz xs ⟨true,some ty⟩),(2,tgt (.sl 3 g sz 0 xs.length none)),(1,rz tr),(0,o0)]⟩
def vk:Option (Nat×List SV)->SV->Nat×List SV
 |none,x=>(0,[x])
 |some (g,xs),x=>(g+1,xs++[x])
inductive Og(tgt:SV->ai)(ty tr:TypeId)(sz:Nat)(st:Option (Nat×List SV))(Q:SV->ai->Prop)(Z:SV->Prop):bu->Heap->Prop
 |ok {x:SV} {JG:ai} (h:Q x JG):Og tgt ty tr sz st Q Z (.ret (.bn [])) (Dv tgt ty tr sz JG (some (vk st x)))
 |eY {v:SV} {h':Heap} (h:Z v):Og tgt ty tr sz st Q Z (.eY v) h'
inductive yQ(tgt:SV->ai)(ty tr:TypeId)(sz:Nat)(st:Option (Nat×List SV))(Q:SV->ai->Prop)(Z:SV->Prop):bu->List (Nat×ai)->Prop
 |ok {x:SV} {JG:ai} {k n:Nat} (h:Q x JG) (hl:aL x) (ho:AV JG) (hk:match st with|none=>3<=k|some _=>k=3) (hn:n=(vk st x).2.length):
  yQ tgt ty tr sz st Q Z (.ret (.bn [])) [(k,.vec (vk st x).1 sz (vk st x).2 ⟨true,some ty⟩),(2,tgt (.sl k (vk st x).1 sz 0 n none)),(1,rz tr),(0,JG)]
 |eY {v:SV} {l':List (Nat×ai)} (h:Z v) (hl:aL v):yQ tgt ty tr sz st Q Z (.eY v) l'
@[reducible] def uV (K:bu->List (Nat×ai)->Prop) (r:bu) (h':Heap):Prop:= ∃(S:Nat->Bool) (r2:bu) (l1:List (Nat×ai)),(r=r2\/qX ⟨h'.cI,kL S h'.l⟩ r r2)/\k9 ⟨h'.cI,kL S h'.l⟩ (cE S h'.l) l1/\K r2 l1
theorem SK(ht:p9 tgt){o0:ai}(h0:AV o0){st:Option (Nat×List SV)}(hst: ∀g xs,st=some (g,xs)-> ∀v∈xs,aL v){Q:SV->ai->Prop}{Z:SV->Prop}
  (hp:aC P f (aT fl) (Dv tgt ty tr sz o0 st) (uV (yQ tgt ty tr sz st Q Z))):aC P f (aT fl) (Dv tgt ty tr sz o0 st) (Og tgt ty tr sz st Q Z):=by
 obtain⟨m,L,hm,Zr,hL⟩: ∃m L,Dv tgt ty tr sz o0 st=⟨m,L⟩/\(m=3/\st=none\/m=4/\ ∃p,st=some p)/\((∀ k o,ak L k=some o->k<m/\k8 (Same L) o o)/\ ∀k,k<m-> ∃o,ak L k=some o):=by
  cases st with
  |none=>
   refine⟨3,_,rfl,.inl ⟨rfl,rfl⟩,fun k o hk=> ?_,fun k hk=> ?_⟩
   ·rcases Li hk with⟨rfl,rfl⟩|⟨rfl,rfl⟩|⟨rfl,rfl⟩
    ·exact⟨by decide,ht.zx (.lit .af)⟩
    ·exact⟨by decide,xy ⟨rfl,_,rfl⟩⟩
    ·exact⟨by decide,jc h0⟩
   ·match k,hk with
    |0,_=>exact⟨_,rfl⟩
    |1,_=>exact⟨_,rfl⟩
    |2,_=>exact⟨_,rfl⟩
  |some p=>
   obtain⟨g,xs⟩:=p;refine⟨4,_,rfl,.inr ⟨rfl,_,rfl⟩,fun k o hk=> ?_,fun k hk=> ?_⟩
   ·rcases Lj (m:=3) hk with⟨rfl,rfl⟩|⟨rfl,rfl⟩|⟨rfl,rfl⟩|⟨rfl,rfl⟩
    ·exact⟨by decide,qy (hst g xs rfl)⟩
    ·exact⟨by decide,ht.zx (.sl ⟨rfl,_,rfl⟩)⟩
    ·exact⟨by decide,xy ⟨rfl,_,rfl⟩⟩
    ·exact⟨by decide,jc h0⟩
   ·match k,hk with
    |0,_=>exact⟨_,rfl⟩
    |1,_=>exact⟨_,rfl⟩
    |2,_=>exact⟨_,rfl⟩
    |3,_=>exact⟨_,rfl⟩
 rw[hm]at hp ⊢;have h3:3<=m:=by rcases Zr with⟨h,_⟩|⟨h,_⟩<;>omega
 have sm: ∀k,k<m->Same L k k:=fun k hk=>⟨rfl,hL.2 k hk⟩
 refine aC.norm (fun k o hk=>hL.1 k o hk) (SC fl (sm 1 (by omega)) (sm 2 (by omega))) ((aC.tidy (R:=fun r h'=>yQ tgt ty tr sz st Q Z r h'.l) hp).mono fun r h' hh=> ?_);obtain⟨nx,l'⟩:=h';have hh:yQ tgt ty tr sz st Q Z r l':=hh;cases hh with
 |eY h hl=>
  exact⟨fun _ _=>False,_,⟨m,[]⟩,⟨fun _ _ h=>h.elim,fun _ _ _ h=>h.elim,fun _ _ _ h=>h.elim,fun _ _ h=>h.elim,Nat.le_refl _,fun j o2 hj=>(by cases hj),.eY (.lit hl)⟩,.eY h⟩
 | @ok x JG k n h hl ho hk hn=>
   subst hn;refine⟨fun a b=>(a=b/\a<3)\/(a=k/\b=3),.ret (.bn []),Dv tgt ty tr sz JG (some (vk st x)),?_,.ok h⟩
   have Px:3<=k:=by
    cases st with
    |none=>exact hk
    |some p=>exact Nat.le_of_eq hk.symm
   have hkm:(m<=k/\m=3)\/(k=3/\m=4):=by
    rcases Zr with⟨h,rfl⟩|⟨h,p,rfl⟩
    ·exact .inl ⟨by have:3<=k:=hk;omega,h⟩
    ·exact .inr ⟨hk,h⟩
   have hv: ∀v∈(vk st x).2,aL v:=by
    cases st with
    |none=>simpa[vk]using hl
    |some p=>
     obtain⟨g,xs⟩:=p;simp only[vk,List.mem_append,List.mem_singleton];rintro _ (h|rfl)
     ·exact hst g xs rfl _ h
     ·exact hl
   refine⟨fun a b h=> ?_,fun a a' b h h'=>by omega,fun a b b' h h'=>by omega,fun a b h _=>by show b<4;omega,(by show m<=4;omega),fun j o2 hj=> ?_,.ret (.lit (.bn (by simp)))⟩
   ·rcases h with⟨rfl,h⟩|⟨rfl,rfl⟩
    ·exact .inl ⟨by omega,sm a (by omega)⟩
    ·rcases hkm with⟨h1,h2⟩|⟨rfl,h2⟩
     ·exact .inr ⟨h1,by omega⟩
     ·exact .inl ⟨by omega,sm 3 (by omega)⟩
   ·rcases Lj (m:=3) hj with⟨rfl,rfl⟩|⟨rfl,rfl⟩|⟨rfl,rfl⟩|⟨rfl,rfl⟩
    ·exact⟨(by show 3<4;decide),.inl ⟨k,_,.inr ⟨rfl,rfl⟩,dD,qy hv⟩⟩
    ·exact⟨(by show 2<4;decide),.inl ⟨2,_,.inl ⟨rfl,by decide⟩,(aU (by omega)).trans rfl,ht.zx (.sl (.inr ⟨rfl,rfl⟩))⟩⟩
    ·exact⟨(by show 1<4;decide),.inl ⟨1,_,.inl ⟨rfl,by decide⟩,(aU (by omega)).trans rfl,xy (.inl ⟨rfl,by decide⟩)⟩⟩
    ·exact⟨(by show 0<4;decide),.inl ⟨0,_,.inl ⟨rfl,by decide⟩,(aU (by omega)).trans rfl,jc ho⟩⟩
end
end
end Ab
namespace Go.Proofs.YtegmnocpkgpgeaaGreatDoor
open Ab Go.RowKit
set_option maxRecDepth 100000
set_option maxHeartbeats 4000000
attribute [local irreducible] aS bH
section
abbrev tR:TypeId:=129
@[reducible] def Ea:ai:=rz 129
@[reducible] def rowOf (sz:Nat) (l:List SV):SV:= .aW sz l.length fun i=>l.getD i .undef
theorem bP(sz:Nat)(l:List SV):aL (rowOf sz l):= .aW _ _ _
theorem sX{A:Heap}{i g sz n:Nat}{cap:Option Nat}{es vs:List SV}{sk:Sk}(ho:A.obj i=some (.vec g sz es sk))(hn:n=es.length)(hl:es.length=vs.length)(h: ∀(j:Nat) (v:SV),es[j]? =some v->bA A v (vs.getD j .undef)):bA A (.sl i g sz 0 n cap) (rowOf sz vs):=by
 have hn':n=vs.length:=hn.trans hl;subst hn';exact .sl ho (by omega) fun j v hj hv=>h j v (by simpa using hv)
theorem dH{A:Heap}{i g sz n:Nat}{cap:Option Nat}{vs:List SV}{sk:Sk}(ho:A.obj i=some (.vec g sz vs sk))(hn:n=vs.length)(hv: ∀v∈vs,aL v):bA A (.sl i g sz 0 n cap) (rowOf sz vs):=
 sX ho hn rfl fun j v h=>by
  rw[List.getD,h];exact .lit (hv v (List.mem_of_getElem? h))
section
variable {l:List TP} {m e:Nat} {α:Type} {fl:Bool} {f:FuncId} {tgt:SV->ai} {ty:TypeId} {sz:Nat} {one:Nat->bB α} {sv:α->SV} {good:α->Prop}
def OQ(l:List TP)(m e:Nat)(one:Nat->bB α)(sv:α->SV)(good:α->Prop)(i:Nat)(v:SV)(o:ai):Prop:= ∃x j,one i= .ok x j/\good x/\i<=j/\j<=l.length/\v=sv x/\o=gv l j m e
def OZ(l:List TP)(m:Nat)(one:Nat->bB α)(i:Nat)(v:SV):Prop:= ∃er j,one i= .bad er j/\er≠0/\v=mY er (dG l m j)
structure vl(fl:Bool)(f:FuncId)(l:List TP)(m e:Nat)(tgt:SV->ai)(ty:TypeId)(sz:Nat)(one:Nat->bB α)(sv:α->SV)(good:α->Prop):Prop where
 tok:p9 tgt
 cal:eS Tryz.prog f=true
 lit: ∀x,aL (sv x)
 run: ∀(st:Option (Nat×List SV)) (i:Nat),i<=l.length->(∀ g xs,st=some (g,xs)->xs.length<=1000/\ ∀v∈xs,aL v)->aC Tryz.prog f (aT fl) (Dv tgt ty tR sz (gv l i m e) st) (Og tgt ty tR sz st (OQ l m e one sv good i) (OZ l m one i))
theorem vl.of(ht:p9 tgt)(hc:eS Tryz.prog f=true)(hs: ∀x,aL (sv x))
  (hE: ∀i,i<=l.length->aC Tryz.prog f (aT fl) ⟨3,[(2,tgt .af),(1,Ea),(0,gv l i m e)]⟩ (uV (yQ tgt ty tR sz none (OQ l m e one sv good i) (OZ l m one i))))
  (hL: ∀i (g:Nat) (xs:List SV),i<=l.length->xs.length<=1000->aC Tryz.prog f (aT fl) ⟨4,[(3,.vec g sz xs ⟨true,some ty⟩),(2,tgt (.sl 3 g sz 0 xs.length none)),(1,Ea),(0,gv l i m e)]⟩ (uV (yQ tgt ty tR sz (some (g,xs)) (OQ l m e one sv good i) (OZ l m one i)))):
  vl fl f l m e tgt ty sz one sv good:=⟨ht,hc,hs,fun st i hi hx=>by
 refine SK ht (bE ..) (fun g xs h=>(hx g xs h).2) ?_;cases st with
 |none=>exact hE i hi
 |some p=>exact hL i p.1 p.2 hi (hx p.1 p.2 rfl).1⟩
theorem gp{i j:Nat}{er:Int}{st:Option (Nat×List SV)}{h':Heap}(hf:one i= .bad er j)(he:er≠0:=by first|assumption|decide):uV (yQ tgt ty tR sz st (OQ l m e one sv good i) (OZ l m one i)) (.eY (mY er (dG l m j))) h':=
 ⟨fun _=>false,_,_,.inl rfl,.refl,.eY ⟨_,_,hf,he,rfl⟩ (cR _ _)⟩
inductive zH(l:List TP)(m e:Nat)(tgt:SV->ai)(sz:Nat)(sv:α->SV)(good:α->Prop)(one:Nat->bB α)(most i:Nat):bu->List (Nat×ai)->Prop
 |ok {xs:List α} {j:Nat} (hf:eP (aO l) l.length one most [] i= .ok xs j) (hg: ∀x∈xs,good x) (h1:i<=j) (h2:j<=l.length) (h3:0<xs.length) (h4:xs.length<=most):zH l m e tgt sz sv good one most i (.ret (.bn [])) [(2,tgt (rowOf sz (xs.map sv))),(1,Ea),(0,gv l j m e)]
 |bad {er:Int} {j:Nat} {l':List (Nat×ai)} (hf:eP (aO l) l.length one most [] i= .bad er j) (he:er≠0):zH l m e tgt sz sv good one most i (.eY (mY er (dG l m j))) l'
inductive Lr(l:List TP)(one:Nat->bB α)(good:α->Prop)(most i0:Nat)(r:bB (List α)) where
 |E (i:Nat) (hi:i<=l.length) (h1:i0<=i) (h:eP (aO l) l.length one most [] i=r)
 |L (g:Nat) (xs:List α) (f i:Nat) (hf:xs.length+f=most) (h0:0<xs.length) (hi:i<=l.length) (h1:i0<=i) (hg: ∀x∈xs,good x) (h:eP (aO l) l.length one f xs i=r)
@[reducible] def Lr.env {most i0:Nat} {r:bB (List α)} (fl:Bool) (g:FuncId):Lr l one good most i0 r->Env
  | .E .. =>[(0,.ref 0 0 0 0),(1,.int .i64 most),(2,.func (.func g) [] (aT fl)),(6,.int .i64 0)]
  | .L _ xs .. =>[(0,.ref 0 0 0 0),(1,.int .i64 most),(2,.func (.func g) [] (aT fl)),(6,.int .i64 ((xs.length:Nat):Int))]
@[reducible] def Lr.hp {most i0:Nat} {r:bB (List α)} (m e:Nat) (tgt:SV->ai) (ty:TypeId) (sz:Nat) (sv:α->SV):Lr l one good most i0 r->Heap
  | .E i .. =>⟨3,[(2,tgt .af),(1,Ea),(0,gv l i m e)]⟩
  | .L g xs _ i .. =>⟨4,[(3,.vec g sz (xs.map sv) ⟨true,some ty⟩),(2,tgt (.sl 3 g sz 0 xs.length none)),(1,Ea),(0,gv l i m e)]⟩
def Lr.mu{most i0:Nat}{r:bB (List α)}:Lr l one good most i0 r->Nat
 | .E .. =>most+1
 | .L _ _ f .. =>f
theorem jg{sv:α->SV}(h: ∀x,aL (sv x)){xs:List α}: ∀v∈xs.map sv,aL v:=fun v hv=>by
 obtain⟨x,_,rfl⟩:=List.mem_map.1 hv;exact h x
theorem sY{most i j:Nat}{er:Int}{h':Heap}(hf:eP (aO l) l.length one most [] i= .bad er j)(he:er≠0:=by first|assumption|(split<;>decide)):uV (zH l m e tgt sz sv good one most i) (.eY (mY er (dG l m j))) h':=⟨fun _=>false,_,_,.inl rfl,.refl,.bad hf he⟩
theorem Dw(ho:vl fl f l m e tgt ty sz one sv good){most i j g nx:Nat}{n:Nat}{xs:List α}(hf:eP (aO l) l.length one most [] i= .ok xs j)(hg: ∀x∈xs,good x)(hn:n=xs.length)(h1:i<=j)(h2:j<=l.length)(h3:0<xs.length)(h4:xs.length<=most):
  uV (zH l m e tgt sz sv good one most i) (.ret (.bn [])) ⟨nx,[(3,.vec g sz (xs.map sv) ⟨true,some ty⟩),(2,tgt (.sl 3 g sz 0 n none)),(1,Ea),(0,gv l j m e)]⟩:=
 ⟨fun k=>Nat.beq k 3,_,_,.inl rfl,.cons (ho.tok.mW (dH (vs:=xs.map sv) rfl (by simp[hn]) (jg ho.lit))) .refl,.ok hf hg h1 h2 h3 h4⟩
theorem Ls(hl:l.length<=65536)(ho:vl fl f l m e tgt ty sz one sv good){most:Nat}(hm:most<=1000){i:Nat}(hi:i<=l.length):
  aC Tryz.prog 153 [.ref 0 0 0 0,.int .i64 most,.func (.func f) [] (aT fl)] ⟨3,[(2,tgt .af),(1,Ea),(0,gv l i m e)]⟩ (fun r h'=>zH l m e tgt sz sv good one most i r h'.l):=by
 refine aC.tidy (RB.call mixed rfl ?_);iterate 6 all_goals ((try conv=>whnf);try first|(with_reducible first|refine zY ?_|refine zN ?_|refine zT ?_|refine br (fun _=> ?_) (fun _=> ?_)|refine⟨rfl,?_⟩))
 refine Ig (σ:=Lr l one good most i (eP (aO l) l.length one most [] i)) (Lr.env fl f) (Lr.hp m e tgt ty sz sv) Lr.mu ?_ (.E i hi (Nat.le_refl i) rfl) (.refl _);have IP:=ho.cal;rintro(⟨k,hk,h1,h⟩|⟨g,xs,q,k,hf,h0,hk,h1,hg,h⟩)
 ·iterate 20 all_goals ((try conv=>whnf);try first|(with_reducible first|refine zY ?_|refine zN ?_|refine zT ?_|refine br (fun _=> ?_) (fun _=> ?_)|refine⟨rfl,?_⟩)|(refine je (p:=0) (fun _=> ?_) (fun _=> ?_))|(refine(ho.run none k hk (fun _ _ h=>by cases h)).mono fun r h' hr=> ?_)|(exact sY (by rw[<- h];obtain rfl:most=0:=(by omega);rfl)))
  obtain⟨q,rfl⟩: ∃q,most=q+1:=⟨most-1,by omega⟩;rw[eP]at h;rcases hr with⟨x,j,e1,e2,e3,e4,rfl,rfl⟩|⟨er,j,e1,he,rfl⟩
  ·rw[e1]at h
   iterate 20 all_goals ((try conv=>whnf);try first|(with_reducible first|refine zY ?_|refine zN ?_|refine zT ?_|refine br (fun _=> ?_) (fun _=> ?_)|refine⟨rfl,?_⟩)|(refine eI (fun hc _=> ?_) (fun hc=> ?_)))
   ·rw[bB.then,hc,if_pos rfl]at h
    exact⟨.L 0 [x] q (j+1) (by simp;omega) (by simp) (by omega) (by omega) (by simpa using e2) h,by show q<q+1+1;omega,rfl,⟨rfl,fun i o h=>h⟩⟩
   ·rw[bB.then,hc,if_neg (by decide)]at h
    exact Dw ho (xs:=[x]) h.symm (by simpa using e2) rfl (by omega) e4 (by simp) (by simp)
  ·rw[e1]at h
   iterate 20 all_goals ((try conv=>whnf);try first|(with_reducible first|refine zY ?_|refine zN ?_|refine zT ?_|refine br (fun _=> ?_) (fun _=> ?_)|refine⟨rfl,?_⟩))
   exact sY h.symm
 ·have e7:IntKind.i64.wrap (((xs.length:Nat):Int)+1)=((xs.length+1:Nat):Int):=bf (by omega)
  have c:=ho.run (some (g,xs.map sv)) k hk (fun _ _ h=>by cases h;exact⟨by simp;omega,jg ho.lit⟩);simp only[Dv,List.length_map]at c;iterate 20 all_goals ((try conv=>whnf);try first|(with_reducible first|refine zY ?_|refine zN ?_|refine zT ?_|refine br (fun _=> ?_) (fun _=> ?_)|refine⟨rfl,?_⟩)|(refine je (p:=xs.length) (fun _=> ?_) (fun _=> ?_))|(refine c.mono fun r h' hr=> ?_)|(exact sY (by rw[<- h];obtain rfl:q=0:=(by omega);rfl)))
  obtain⟨q,rfl⟩: ∃p,q=p+1:=⟨q-1,by omega⟩;rw[eP]at h;rcases hr with⟨x,j,e1,e2,e3,e4,rfl,rfl⟩|⟨er,j,e1,he,rfl⟩
  ·rw[e1]at h
   have e9:Dv tgt ty tR sz (gv l j m e) (some (vk (some (g,xs.map sv)) (sv x)))=⟨4,[(3,.vec (g+1) sz ((xs++[x]).map sv) ⟨true,some ty⟩),(2,tgt (.sl 3 (g+1) sz 0 (xs.length+1) none)),(1,Ea),(0,gv l j m e)]⟩:=by simp[vk]
   rw[e9];iterate 20 all_goals ((try conv=>whnf);try first|(with_reducible first|refine zY ?_|refine zN ?_|refine zT ?_|refine br (fun _=> ?_) (fun _=> ?_)|refine⟨rfl,?_⟩)|(refine eI (fun hc _=> ?_) (fun hc=> ?_)))
   ·rw[bB.then,hc,if_pos rfl]at h
    exact⟨.L (g+1) (xs++[x]) q (j+1) (by simp;omega) (by simp) (by omega) (by omega) (by simp only[List.mem_append,List.mem_singleton];rintro y (h|rfl);exact hg y h;exact e2) h,by show q<q+1;omega,by rw[e7];simp,⟨rfl,fun i o h=>by simp only[Lr.hp,List.length_append,List.length_singleton]at h;exact h⟩⟩
   ·rw[bB.then,hc,if_neg (by decide)]at h
    exact Dw ho (xs:=xs++[x]) h.symm (by simp only[List.mem_append,List.mem_singleton];rintro y (h|rfl);exact hg y h;exact e2) (by simp) (by omega) e4 (by simp) (by simp;omega)
  ·rw[e1]at h
   iterate 20 all_goals ((try conv=>whnf);try first|(with_reducible first|refine zY ?_|refine zN ?_|refine zT ?_|refine br (fun _=> ?_) (fun _=> ?_)|refine⟨rfl,?_⟩))
   exact sY h.symm
end
end
end Go.Proofs.YtegmnocpkgpgeaaGreatDoor
