/- Parts of the proof of PCatalogBack, one behind the other, with short names. -/
import Derived.Test.YtegmnocpkgpgeaaGreatDoorZ36
import Derived.Test.YtegmnocpkgpgeaaGreatDoorZ33
set_option linter.unusedVariables false
set_option linter.unusedSimpArgs false
namespace Go.Proofs.YtegmnocpkgpgeaaGreatDoor
open Ab Go.RowKit
set_option maxRecDepth 100000
set_option maxHeartbeats 4000000
attribute [local irreducible] aS bH
section
@[reducible] def box (a:Nat):ai:= .vec 0 1 [.ref a 0 0 0] ⟨false,some 129⟩
theorem GL{N:Nat->Nat->Prop}{a:Nat}(h:N 0 a):k8 N Ea (box a):= .vec rfl fun i v v' p q=>by
 cases i with
 |zero=>simp at p q;subst p;subst q;exact .ref h
 |succ i=>simp at p
@[reducible] def aR (fl:Bool) (t b:Nat):List SV:=match fl with
  |false=>[.ref t 0 0 0,.ref b 0 0 0]
  |true=>[.ref b 0 0 0,.ref t 0 0 0]
def MZ(a b t:Nat)(k j:Nat):Prop:=(k=0/\j=a)\/(k=1/\j=b)\/(k=2/\j=t)
section
variable {l:List TP} {m e:Nat} {α:Type} {fl:Bool} {f:FuncId} {tgt:SV->ai} {ty:TypeId} {sz:Nat} {one:Nat->bB α} {sv:α->SV} {good:α->Prop} {G:List UInt8->Prop}
theorem lg(ho:vl fl f l m e tgt ty sz one sv good){most i a b t n:Nat}{lh:List (Nat×ai)}{R:bu->Heap->Prop}{z:Int}
  (hok: ∀xs j,eP (aO l) l.length one most [] i= .ok xs j->(∀ x∈xs,good x)->i<=j->j<=l.length->0<xs.length->xs.length<=most->R (.ret (.bn [])) ⟨n,bt (bt lh a (gv l j m e)) t (tgt (rowOf sz (xs.map sv)))⟩)
  (eO: ∀er j,eP (aO l) l.length one most [] i= .bad er j->er≠0->R (.eY (mY er (dG l m j))) ⟨n,cE (fun j=>(Nat.beq j a||Nat.beq j b)||Nat.beq j t) lh⟩)
  (h0:ak lh a=some (gv l i m e):=by rfl)(h1:ak lh b=some (box a):=by rfl)(h2:ak lh t=some (tgt .af):=by rfl)(hd:(Nat.beq a b||(Nat.beq a t||Nat.beq b t))=false:=by rfl)(hz:z=(most:Nat):=by rfl)(hm:most<=1000:=by decide)(hl:l.length<=65536:=by assumption)(hi:i<=l.length:=by omega):
  aC Tryz.prog 153 [.ref a 0 0 0,.int .i64 z,.func (.func f) [] (aR fl t b)] ⟨n,lh⟩ R:=by
 subst hz;simp only[Bool.or_eq_false_iff]at hd;have hab:=Nat.ne_of_beq_eq_false hd.1;have pq:=Nat.ne_of_beq_eq_false hd.2.1;have hbt:=Nat.ne_of_beq_eq_false hd.2.2;have hlt: ∀ {R:bu->Heap->Prop} {f:FuncId} {az:List SV},((∀ j p,ak lh j=some p->j<n)->aC Tryz.prog f az ⟨n,lh⟩ R)->aC Tryz.prog f az ⟨n,lh⟩ R:=fun h=>⟨fun c w xs hr hs hv=>(h fun j p hj=>hr.lt j p hj).calls c w xs hr hs hv⟩
 refine hlt fun hlt=> ?_
 have inj: ∀k k' j,MZ a b t k j->MZ a b t k' j->k=k':=fun k k' j h h'=>by unfold MZ at h h';omega
 have fn: ∀k j j',MZ a b t k j->MZ a b t k j'->j=j':=fun k j j' h h'=>by unfold MZ at h h';omega
 refine aC.frame (N:=MZ a b t) (m:=3) (L:=[(2,tgt .af),(1,Ea),(0,gv l i m e)]) (args:=[.ref 0 0 0 0,.int .i64 most,.func (.func f) [] (aT fl)]) (fun k q hk=> ?_) (fun k j hk=> ?_) inj fn
  (.cons (.ref (.inl ⟨rfl,rfl⟩)) (.cons (.lit (.int _ _)) (.cons (.func _ rfl (by cases fl<;>rfl) (fun i v v' p q=>by simp at p) fun i v v' p q=> ?_) .nil))) ((Ls hl ho hm hi).mono fun r h' hh=> ?_)
 ·rcases Li hk with⟨rfl,rfl⟩|⟨rfl,rfl⟩|⟨rfl,rfl⟩
  ·exact⟨by decide,t,_,.inr (.inr ⟨rfl,rfl⟩),h2,ho.tok.zx (.lit .af)⟩
  ·exact⟨by decide,b,_,.inr (.inl ⟨rfl,rfl⟩),h1,GL (.inl ⟨rfl,rfl⟩)⟩
  ·exact⟨by decide,a,_,.inl ⟨rfl,rfl⟩,h0,jc (bE ..)⟩
 ·rcases hk with⟨rfl,rfl⟩|⟨rfl,rfl⟩|⟨rfl,rfl⟩<;>exact⟨by decide,_,rfl⟩
 ·cases fl
  ·match i with
   |0=>simp at p q;subst p;subst q;exact .ref (.inr (.inr ⟨rfl,rfl⟩))
   |1=>simp at p q;subst p;subst q;exact .ref (.inr (.inl ⟨rfl,rfl⟩))
   |i+2=>simp at p
  ·match i with
   |0=>simp at p q;subst p;subst q;exact .ref (.inr (.inl ⟨rfl,rfl⟩))
   |1=>simp at p q;subst p;subst q;exact .ref (.inr (.inr ⟨rfl,rfl⟩))
   |i+2=>simp at p
 ·obtain⟨nx,l'⟩:=h'
  have hh:zH l m e tgt sz sv good one most i r l':=hh;cases hh with
  | @bad er j _ hf he=>
    refine⟨fun _ _=>False,.eY (mY er (dG l m j)),_,⟨fun _ _ h=>h.elim,fun _ _ _ h=>h.elim,fun _ _ _ h=>h.elim,fun _ _ h=>h.elim,Nat.le_refl _,fun j o2 hj=> ?_,.eY (.lit (cR _ _))⟩,eO er j hf he⟩;have hj:ak (cE _ lh) j=some o2:=hj;rw[fB]at hj;split at hj
    ·cases hj
    ·rename_i hne
     refine⟨hlt j _ hj,.inr ⟨hj,fun k hk=>hne ?_⟩⟩;rcases hk with⟨_,rfl⟩|⟨_,rfl⟩|⟨_,rfl⟩<;>simp
  | @ok xs j hf hg q1 q2 q3 q4=>
    refine⟨MZ a b t,.ret (.bn []),_,⟨fun k j h=> .inl ⟨by unfold MZ at h;omega,h⟩,inj,fn,fun k j h _=> ?_,Nat.le_refl _,fun q o2 hj=> ?_,.ret (.lit (.bn (by simp)))⟩,hok xs j hf hg q1 q2 q3 q4⟩
    ·rcases h with⟨_,rfl⟩|⟨_,rfl⟩|⟨_,rfl⟩
     ·exact hlt _ _ h0
     ·exact hlt _ _ h1
     ·exact hlt _ _ h2
    ·have hj:ak (bt (bt lh a (gv l j m e)) t (tgt (rowOf sz (xs.map sv)))) q=some o2:=hj
     by_cases WM:q=t
     ·subst WM
      rw[aV (o:=tgt .af) (by rw[aF (fun h=>pq h.symm)];exact h2)]at hj;cases hj
      exact⟨hlt _ _ h2,.inl ⟨2,_,.inr (.inr ⟨rfl,rfl⟩),rfl,ho.tok.zx (.lit (bP _ _))⟩⟩
     rw[aF WM]at hj;by_cases Zs:q=a
     ·subst Zs
      rw[aV h0]at hj;cases hj
      exact⟨hlt _ _ h0,.inl ⟨0,_,.inl ⟨rfl,rfl⟩,rfl,jc (bE ..)⟩⟩
     rw[aF Zs]at hj;by_cases hqb:q=b
     ·subst hqb
      rw[h1]at hj;cases hj
      exact⟨hlt _ _ h1,.inl ⟨1,_,.inr (.inl ⟨rfl,rfl⟩),rfl,GL (.inl ⟨rfl,rfl⟩)⟩⟩
     exact⟨hlt _ _ hj,.inr ⟨hj,fun k hk=>by unfold MZ at hk;omega⟩⟩
theorem GM(ty:TypeId):p9 fun v=> .vec 0 1 [v] ⟨false,some ty⟩:=⟨fun h=> .vec rfl fun i v v' a b=>by
 cases i with
 |zero=>simp at a b;subst a;subst b;exact h
 |succ i=>simp at a,fun h=>oK h⟩
theorem rj{i j k:Nat}{x:α}{h':Heap}(S:Nat->Bool){l1:List (Nat×ai)}(hL:k9 ⟨h'.cI,kL S h'.l⟩ (cE S h'.l) l1)(hf:one i= .ok x j)(hg:good x)(h1:i<=j)(h2:j<=l.length)(hx:aL (sv x))
  (el:l1=[(k,.vec 0 sz [sv x] ⟨true,some ty⟩),(2,tgt (.sl k 0 sz 0 1 none)),(1,Ea),(0,gv l j m e)]:=by rfl)(hk:3<=k:=by decide):uV (yQ tgt ty tR sz none (OQ l m e one sv good i) (OZ l m one i)) (.ret (.bn [])) h':=by
 subst el;exact⟨S,_,_,.inl rfl,hL,.ok ⟨x,j,hf,hg,h1,h2,rfl,rfl⟩ hx (bE ..) hk rfl⟩
theorem rm{i j g n:Nat}{x:α}{xs:List SV}{h':Heap}(S:Nat->Bool){l1:List (Nat×ai)}(hL:k9 ⟨h'.cI,kL S h'.l⟩ (cE S h'.l) l1)(hf:one i= .ok x j)(hg:good x)(h1:i<=j)(h2:j<=l.length)(hx:aL (sv x))
  (el:l1=[(3,.vec (g+1) sz (xs++[sv x]) ⟨true,some ty⟩),(2,tgt (.sl 3 (g+1) sz 0 n none)),(1,Ea),(0,gv l j m e)]:=by rfl)(hn:n=xs.length+1:=by simp):uV (yQ tgt ty tR sz (some (g,xs)) (OQ l m e one sv good i) (OZ l m one i)) (.ret (.bn [])) h':=by
 subst el;subst hn
 exact⟨S,_,_,.inl rfl,hL,.ok ⟨x,j,hf,hg,h1,h2,rfl,rfl⟩ hx (bE ..) rfl (by simp[vk])⟩
theorem Fs(hl:ig l G):vl false 191 l m e (fun v=> .vec 0 1 [v] ⟨false,some 82⟩) 9 1 (fC (aO l) (kX bC)) SV.str G:= .of (GM _) rfl (fun _=> .str _) (fun i hi=>by
 have c:=gj (m:=m) (e:=e) hl;refine KP.call mixed rfl ?_;iterate 20 all_goals ((try conv=>whnf);try first|(with_reducible first|refine zY ?_|refine zN ?_|refine zT ?_|refine br (fun _=> ?_) (fun _=> ?_)|refine⟨rfl,?_⟩)|(refine c.go (fun x j hf hg h1 h2=> ?_) (fun er j hf he=> ?_))|(refine eW rfl (by decide) ?_)|(exact gp hf))
 exact rj (fun k=>Nat.beq k 3) .refl hf hg h1 h2 (.str _)) (fun i g xs hi hx=>by
 have c:=gj (m:=m) (e:=e) hl;refine KP.call mixed rfl ?_;iterate 20 all_goals ((try conv=>whnf);try first|(with_reducible first|refine zY ?_|refine zN ?_|refine zT ?_|refine br (fun _=> ?_) (fun _=> ?_)|refine⟨rfl,?_⟩)|(refine c.go (fun x j hf hg h1 h2=> ?_) (fun er j hf he=> ?_))|(refine eu rfl rfl (by decide) rfl (by omega) (by omega) ?_)|(exact gp hf))
 exact rm (fun k=>Nat.beq k 4) .refl hf hg h1 h2 (.str _))
@[reducible] def Yq (ns:List (List UInt8)):SV:=rowOf 1 (ns.map SV.str)
def Bg(G:List UInt8->Prop)(most:Nat)(ns:List (List UInt8)):Prop:=(∀ s∈ns,G s)/\0<ns.length/\ns.length<=most
theorem xD(hl:ig l G)(most:Nat)(hm:most<=1000):Rd l m e 161 [.int .i64 most] Yq (Bg G most) (qa (aO l) l.length (kX bC) most):=jd (di (.int _ _)) fun i hi=>RI.call mixed rfl (by
 have qV:=hl.len;iterate 40 all_goals ((try conv=>whnf);try first|(with_reducible first|refine zY ?_|refine zN ?_|refine zT ?_|refine br (fun _=> ?_) (fun _=> ?_)|refine⟨rfl,?_⟩)|(refine dU (fun _ _=> ?_) (fun _=> ?_))|(refine lg (Fs hl) (fun xs j _ _ _ _ _ _=> ?_) (fun er j _ _=> ?_) (hm:=hm))|(exact bW (by simp only[*,qa,aM,bB.then,↓reduceIte,Bool.false_eq_true])))
 exact bJ (by simp only[*,qa,aM,bB.then,↓reduceIte,Bool.false_eq_true]<;>rfl) ⟨by assumption,by assumption,by assumption⟩ (.lit (bP _ _)) (bP _ _))
theorem xE(hl:ig l G):Rd l m 0 157 [] xB (fun x=>x=GD\/fO G x) (rV (aO l) (iP l)):=jd fJ fun i hi=>RE.call mixed rfl (by
 have qV:=hl.len;iterate 40 all_goals ((try conv=>whnf);try first|(with_reducible first|refine zY ?_|refine zN ?_|refine zT ?_|refine br (fun _=> ?_) (fun _=> ?_)|refine⟨rfl,?_⟩)|(refine eI (fun _ _=> ?_) (fun _=> ?_))|(refine(iG hl).go (fun x j _ _ _ _=> ?_) (fun er j _ _=> ?_))|(exact bW (by simp only[*,rV,↓reduceIte,Bool.false_eq_true])))
 all_goals first
  |exact bJ (by simp only[*,rV,↓reduceIte,Bool.false_eq_true]<;>rfl) (.inr (by assumption)) (.lit (aN _)) (aN _)
  |exact bJ (by simp only[*,rV,↓reduceIte,Bool.false_eq_true]<;>rfl) (.inl rfl) (ug sO) (aN _))
end
end
end Go.Proofs.YtegmnocpkgpgeaaGreatDoor
namespace Ab
open Go
theorem PW{P:Program}{ops:List aA}{e:Env}{h:Heap}{k:Env->Heap->Prop}{o7 o8 o9 vm:aA}(g7:fm ops 7=some o7)(g8:fm ops 8=some o8)(g9:fm ops 9=some o9)(g10:fm ops 10=some vm)
  (f1:bU o7.pre [7,9,8,10]=true)(f2:bU o9.pre [7,9,8,10]=true)(f3:bU o8.pre [7,9,8,10]=false)(f4:bU vm.pre [7,9,8,10]=false)
  (f5:bU o9.pre [9,8,10]=true)(f6:bU o8.pre [9,8,10]=true)(f7:bU vm.pre [9,8,10]=false)(f8:bU o8.pre [8,10]=true)(f9:bU vm.pre [8,10]=true)(f10:bU vm.pre [10]=true)(f11:bU o8.pre [8]=true)
  (f12:bU o9.pre [9,10]=true)(f13:bU vm.pre [9,10]=false)(f14:bU o7.pre [7,8,10]=true)(f15:bU o8.pre [7,8,10]=false)(f16:bU vm.pre [7,8,10]=true)(f17:bU o7.pre [7,8]=true)(f18:bU o8.pre [7,8]=false)
  {e7 e9 oW vF:Env}{h8 h10 hh:Heap}
  (s7: ∀K,ec P (bz P) o7 e h K=K e7 h)(Zt: ∀K,ec P (bz P) o9 e7 h K=K oW h)(s8: ∀K,ec P (bz P) o8 oW h K=K oW h8)(VF: ∀K,ec P (bz P) vm oW h8 K=K oW hh)(s10: ∀K,ec P (bz P) vm oW h K=K oW h10)(Yr: ∀K,ec P (bz P) o8 oW h10 K=K oW hh)
  (t8: ∀K,ec P (bz P) o8 e7 h K=K e7 h8)(t89: ∀K,ec P (bz P) o9 e7 h8 K=K oW h8)
  (u9: ∀K,ec P (bz P) o9 e h K=K e9 h)(u97: ∀K,ec P (bz P) o7 e9 h K=K vF h)(v8: ∀K,ec P (bz P) o8 vF h K=K vF h8)(Yt: ∀K,ec P (bz P) vm vF h8 K=K vF hh)(v10: ∀K,ec P (bz P) vm vF h K=K vF h10)(Yu: ∀K,ec P (bz P) o8 vF h10 K=K vF hh)
  (w10: ∀K,ec P (bz P) vm e9 h K=K e9 h10)(Yv: ∀K,ec P (bz P) o7 e9 h10 K=K vF h10)
  (p1:vY oW oW)(p2:vY vF oW)(hk:k oW hh):vZ P (bz P) ops [7,9,8,10] e h k:=by
 unfold vZ
 have r1:HF P (bz P) ops [7,9,8,10] e h=fun K=>K oW hh:=by
  funext K;simp only[HF,g7,g8,g9,g10,s7,Zt,s8,VF]
 rw[r1];have q1: ∀p:Prop,p->(fun e' h' p=>(bz P).fin (O9 oW hh e' h') (vY e' oW/\hh=h') p) oW hh p:=fun p hp=>⟨⟨p1,rfl⟩,hp⟩
 have q2: ∀p:Prop,p->(fun e' h' p=>(bz P).fin (O9 oW hh e' h') (vY e' oW/\hh=h') p) vF hh p:=fun p hp=>⟨⟨p2,rfl⟩,hp⟩
 show iy P (bz P) ops (fun e' h' p=>(bz P).fin (O9 oW hh e' h') (vY e' oW/\hh=h') p) 4 [7,9,8,10] e h (k oW hh);generalize (fun e' h' p=>(bz P).fin (O9 oW hh e' h') (vY e' oW/\hh=h') p)=l9 at q1 q2;generalize k oW hh=p at hk
 have Zu: ∀p:Prop,p->iy P (bz P) ops l9 1 [10] oW h8 p:=fun p hp=>by
  rw[gY];show(match fm ops 10 with|none=>False|some o=> @Bool.rec (fun _=>Prop) p (ec P (bz P) o oW h8 fun e' h'=>iy P (bz P) ops l9 0 [] e' h' p) (bU o.pre [10]));rw[g10];show@Bool.rec (fun _=>Prop) p (ec P (bz P) vm oW h8 fun e' h'=>l9 e' h' p) (bU vm.pre [10]);rw[f10];show ec P (bz P) vm oW h8 _;rw[VF];exact q1 p hp
 have a8: ∀p:Prop,p->iy P (bz P) ops l9 1 [8] oW h10 p:=fun p hp=>by
  rw[gY];show(match fm ops 8 with|none=>False|some o=> @Bool.rec (fun _=>Prop) p (ec P (bz P) o oW h10 fun e' h'=>iy P (bz P) ops l9 0 [] e' h' p) (bU o.pre [8]));rw[g8];show@Bool.rec (fun _=>Prop) p (ec P (bz P) o8 oW h10 fun e' h'=>l9 e' h' p) (bU o8.pre [8]);rw[f11];show ec P (bz P) o8 oW h10 _;rw[Yr];exact q1 p hp
 have Lt: ∀p:Prop,p->iy P (bz P) ops l9 1 [10] vF h8 p:=fun p hp=>by
  rw[gY];show(match fm ops 10 with|none=>False|some o=> @Bool.rec (fun _=>Prop) p (ec P (bz P) o vF h8 fun e' h'=>iy P (bz P) ops l9 0 [] e' h' p) (bU o.pre [10]));rw[g10];show@Bool.rec (fun _=>Prop) p (ec P (bz P) vm vF h8 fun e' h'=>l9 e' h' p) (bU vm.pre [10]);rw[f10];show ec P (bz P) vm vF h8 _;rw[Yt];exact q2 p hp
 have b8: ∀p:Prop,p->iy P (bz P) ops l9 1 [8] vF h10 p:=fun p hp=>by
  rw[gY];show(match fm ops 8 with|none=>False|some o=> @Bool.rec (fun _=>Prop) p (ec P (bz P) o vF h10 fun e' h'=>iy P (bz P) ops l9 0 [] e' h' p) (bU o.pre [8]));rw[g8];show@Bool.rec (fun _=>Prop) p (ec P (bz P) o8 vF h10 fun e' h'=>l9 e' h' p) (bU o8.pre [8]);rw[f11];show ec P (bz P) o8 vF h10 _;rw[Yu];exact q2 p hp
 have two: ∀(m x y:Nat) (ox oy:aA) (e:Env) (h:Heap) (p:Prop),fm ops x=some ox->fm ops y=some oy->iy P (bz P) ops l9 (m+1) [x,y] e h p=
   @Bool.rec (fun _=>Prop) (@Bool.rec (fun _=>Prop) p (ec P (bz P) oy e h fun e' h'=>iy P (bz P) ops l9 m (oX [x,y] y) e' h' p) (bU oy.pre [x,y]))
    (ec P (bz P) ox e h fun e' h'=>iy P (bz P) ops l9 m (oX [x,y] x) e' h' (@Bool.rec (fun _=>Prop) p (ec P (bz P) oy e h fun e' h'=>iy P (bz P) ops l9 m (oX [x,y] y) e' h' p) (bU oy.pre [x,y]))) (bU ox.pre [x,y]):=fun m x y ox oy e h p h1 h2=>by
  rw[gY];simp only[uB,h1,h2]
 have three: ∀(m x y z:Nat) (ox oy oz:aA) (e:Env) (h:Heap) (p:Prop),fm ops x=some ox->fm ops y=some oy->fm ops z=some oz->bU ox.pre [x,y,z]=true->
   (∀ q:Prop,q->ec P (bz P) ox e h fun e' h'=>iy P (bz P) ops l9 m (oX [x,y,z] x) e' h' q)->(bU oy.pre [x,y,z]=true-> ∀q:Prop,q->ec P (bz P) oy e h fun e' h'=>iy P (bz P) ops l9 m (oX [x,y,z] y) e' h' q)->
   (bU oz.pre [x,y,z]=true-> ∀q:Prop,q->ec P (bz P) oz e h fun e' h'=>iy P (bz P) ops l9 m (oX [x,y,z] z) e' h' q)->p->iy P (bz P) ops l9 (m+1) [x,y,z] e h p:=fun m x y z ox oy oz e h p h1 h2 h3 hx k1 k2 k3 hp=>by
  rw[gY];simp only[uB,h1,h2,h3];rw[hx];refine k1 _ ?_
  have hz: @Bool.rec (fun _=>Prop) p (ec P (bz P) oz e h fun e' h'=>iy P (bz P) ops l9 m (oX [x,y,z] z) e' h' p) (bU oz.pre [x,y,z]):=by
   cases hb:bU oz.pre [x,y,z]with
   |true=>exact k3 hb p hp
   |false=>exact hp
  cases hb:bU oy.pre [x,y,z]with
  |true=>exact k2 hb _ hz
  |false=>exact hz
 have pair: ∀p:Prop,p->iy P (bz P) ops l9 2 [8,10] oW h p:=fun p hp=>by
  rw[two 1 8 10 o8 vm oW h p g8 g10,f8,f9];show ec P (bz P) o8 oW h _;rw[s8];refine Zu _ ?_;show ec P (bz P) vm oW h _;rw[s10];exact a8 p hp
 have VG: ∀p:Prop,p->iy P (bz P) ops l9 2 [8,10] vF h p:=fun p hp=>by
  rw[two 1 8 10 o8 vm vF h p g8 g10,f8,f9];show ec P (bz P) o8 vF h _;rw[v8];refine Lt _ ?_;show ec P (bz P) vm vF h _;rw[v10];exact b8 p hp
 have VH: ∀p:Prop,p->iy P (bz P) ops l9 2 [9,10] e7 h8 p:=fun p hp=>by
  rw[two 1 9 10 o9 vm e7 h8 p g9 g10,f12,f13];show ec P (bz P) o9 e7 h8 _;rw[t89];exact Zu _ hp
 have VI: ∀p:Prop,p->iy P (bz P) ops l9 2 [7,8] e9 h10 p:=fun p hp=>by
  rw[two 1 7 8 o7 o8 e9 h10 p g7 g8,f17,f18];show ec P (bz P) o7 e9 h10 _;rw[Yv];exact b8 _ hp
 have tri: ∀p:Prop,p->iy P (bz P) ops l9 3 [9,8,10] e7 h p:=fun p hp=>three 2 9 8 10 o9 o8 vm e7 h p g9 g8 g10 f5 (fun q hq=>by rw[Zt];exact pair q hq) (fun _ q hq=>by rw[t8];exact VH q hq) (fun hb=>by rw[f7]at hb;cases hb) hp
 have Yw: ∀p:Prop,p->iy P (bz P) ops l9 3 [7,8,10] e9 h p:=fun p hp=>three 2 7 8 10 o7 o8 vm e9 h p g7 g8 g10 f14 (fun q hq=>by rw[u97];exact VG q hq) (fun hb=>by rw[f15]at hb;cases hb) (fun _ q hq=>by rw[w10];exact VI q hq) hp
 rw[gY];simp only[uB,g7,g8,g9,g10];rw[f1,f2,f3,f4];show ec P (bz P) o7 e h _;rw[s7];refine tri _ ?_;show ec P (bz P) o9 e h _;rw[u9];exact Yw _ hk
end Ab
namespace Go.Proofs.YtegmnocpkgpgeaaGreatDoor
open Ab Go.RowKit
set_option maxRecDepth 100000
set_option maxHeartbeats 8000000
section
@[reducible] def PX (x:MY):SV:= .agg [.bool x.all,.int .u8 x.x.op,.int .u8 x.x.va.k,.int .i64 x.x.va.i,.str x.x.va.s,.str x.x.tb,.str x.x.nm,.int .i64 x.x.slot,.int .u8 x.x.kd,sM (sN x.x.args),.str x.nm]
@[reducible] def JI (x:Src):SV:= .agg [.str x.tb,.str x.nm,.int .u8 x.IL.op,.int .u8 x.IL.va.k,.int .i64 x.IL.va.i,.str x.IL.va.s,.str x.IL.tb,.str x.IL.nm,.int .i64 x.IL.slot,.int .u8 x.IL.kd,sM (sN x.IL.args)]
@[reducible] def W1 (x:Ord):SV:= .agg [.int .u8 x.x.op,.int .u8 x.x.va.k,.int .i64 x.x.va.i,.str x.x.va.s,.str x.x.tb,.str x.x.nm,.int .i64 x.x.slot,.int .u8 x.x.kd,sM (sN x.x.args),.bool x.desc]
@[reducible] def W2 (x:VC):SV:= .agg [.str x.nm,.int .u8 x.x.op,.int .u8 x.x.va.k,.int .i64 x.x.va.i,.str x.x.va.s,.str x.x.tb,.str x.x.nm,.int .i64 x.x.slot,.int .u8 x.x.kd,sM (sN x.x.args),.int .i64 x.slot]
@[reducible] def gQ (x:fH):SV:= .agg [.str x.nm,.int .u8 x.kd,.bool x.nn]
theorem oN(x:MY):aL (PX x):= .agg (by
 simp only[List.mem_cons,List.not_mem_nil,or_false];rintro _ (rfl|rfl|rfl|rfl|rfl|rfl|rfl|rfl|rfl|rfl|rfl)<;>constructor)
theorem Bh(x:Src):aL (JI x):= .agg (by
 simp only[List.mem_cons,List.not_mem_nil,or_false];rintro _ (rfl|rfl|rfl|rfl|rfl|rfl|rfl|rfl|rfl|rfl|rfl)<;>constructor)
theorem sZ(x:Ord):aL (W1 x):= .agg (by
 simp only[List.mem_cons,List.not_mem_nil,or_false];rintro _ (rfl|rfl|rfl|rfl|rfl|rfl|rfl|rfl|rfl|rfl)<;>constructor)
theorem Bi(x:VC):aL (W2 x):= .agg (by
 simp only[List.mem_cons,List.not_mem_nil,or_false];rintro _ (rfl|rfl|rfl|rfl|rfl|rfl|rfl|rfl|rfl|rfl|rfl)<;>constructor)
theorem qz(x:fH):aL (gQ x):= .agg (by
 simp only[List.mem_cons,List.not_mem_nil,or_false];rintro _ (rfl|rfl|rfl)<;>constructor)
@[reducible] def W3 (kind:Int) (name eH:List UInt8) (aq key:SV) (uniq:Bool) (names rows items xA:SV) (wh:Ex) (group order:SV) (limit:Int) (sets:SV):List SV:=
  [.int .u8 kind,.str name,.str eH,aq,key,.bool uniq,names,rows,items,xA,.int .u8 wh.op,.int .u8 wh.va.k,.int .i64 wh.va.i,.str wh.va.s,.str wh.tb,.str wh.nm,.int .i64 wh.slot,.int .u8 wh.kd,sM (sN wh.args),group,order,.int .i64 limit,sets]
@[reducible] def BA (cs:List SV):ai:= .vec 0 23 [.agg cs] ⟨false,some 93⟩
@[reducible] def uj (kind:Int) (name eH:List UInt8) (aq key:SV) (uniq:Bool) (names rows items xA:SV) (group order:SV) (limit:Int) (sets:SV):List SV:=
  [.int .u8 kind,.str name,.str eH,aq,key,.bool uniq,names,rows,items,xA,.int .u8 0,.int .u8 0,.int .i64 0,.str [],.str [],.str [],.int .i64 0,.int .u8 0,.af,group,order,.int .i64 limit,sets]
theorem qA{sz:Nat}{pre post:List SV}{sk:Sk}(h1: ∀a∈pre,aL a)(h2: ∀a∈post,aL a):p9 fun v=> .vec 0 sz [.agg (pre++v::post)] sk:=by
 have mid: ∀ {R:SV->SV->Prop} {v v':SV},(∀ a,aL a->R a a)->R v v'-> ∀(i:Nat) (u u':SV),(pre++v::post)[i]? =some u->(pre++v'::post)[i]? =some u'->R u u':=by
  intro R v v' hl hv i u u' a b;rcases Nat.lt_trichotomy i pre.length with h|h|h
  ·rw[List.getElem?_append_left h]at a b
   rw[a]at b;cases b
   exact hl u (h1 u (List.mem_of_getElem? a))
  ·subst h
   simp at a b;subst a;subst b
   exact hv
  ·rw[List.getElem?_append_right (by omega)]at a b
   obtain⟨k,hk⟩: ∃k,i-pre.length=k+1:=⟨i-pre.length-1,by omega⟩;rw[hk]at a b;simp at a b;rw[a]at b;cases b
   exact hl u (h2 u (List.mem_of_getElem? a))
 refine⟨fun{N v v'} h=> .vec rfl fun i u u' a b=> ?_,fun{A v v'} h=>oK (.agg (by simp) (mid (fun a ha=> .lit ha) h))⟩;cases i with
 |zero=>
  simp at a b;subst a;subst b
  exact .agg (by simp) (mid (fun a ha=> .lit ha) h)
 |succ i=>simp at a
theorem IQ{A:Heap}{g sz:Nat}{es:List SV}{v v':SV}{sk:Sk}(h:bA A v v'):yL A (.vec g sz (es++[v]) sk) (.vec g sz (es++[v']) sk):= .vec (by simp) fun i u u' a b=>by
 rcases Nat.lt_trichotomy i es.length with hi|hi|hi
 ·rw[List.getElem?_append_left hi]at a b
  rw[a]at b;cases b
  exact .inl rfl
 ·subst hi
  simp at a b;subst a;subst b
  exact .inr h
 ·rw[List.getElem?_append_right (by omega)]at a
  obtain⟨k,hk⟩: ∃k,i-es.length=k+1:=⟨i-es.length-1,by omega⟩;rw[hk]at a;simp at a
def GO:SV->Bool
 | .af| .str _| .bool _| .int _ _| .aW _ _ _=>true
 |_=>false
theorem Dx: ∀ {v:SV},GO v=true->aL v
 | .af,_=> .af
 | .str _,_=> .str _
 | .bool _,_=> .bool _
 | .int _ _,_=> .int _ _
 | .aW _ _ _,_=> .aW _ _ _
theorem dP: ∀ {l:List SV},l.all GO=true-> ∀a∈l,aL a:=fun{l} h a ha=>Dx (List.all_eq_true.1 h a ha)
theorem rW: ∀(vs l pre:List SV),l.length=vs.length->fL (pre++l) pre.length vs=pre++vs
 | [],l,pre,h=>by
   obtain rfl:=List.eq_nil_of_length_eq_zero h;rfl
 |v::vs,[],pre,h=>by simp at h
 |v::vs,x::l,pre,h=>by
  have ih:=rW vs l (pre++[v]) (by simpa using h);rw[fL,List.set_append_right _ _ (Nat.le_refl _)];simpa using ih
theorem Ft{cs vs:List SV}{K:List SV->Prop}(h:cs.length=vs.length)(hk:K vs):kN cs 0 vs K:=ff.2 ⟨by omega,by have:=rW vs cs [] h;simp at this;rw[this];exact hk⟩
theorem SL{a b:Bool}{p:Prop}(ha:a=true)(hb:b=true):cY a (cY b p)=p:=by subst ha;subst hb;rfl
theorem hbd(n:Nat):(decide ((0:Int)<=(n:Int))&&decide ((n:Int)<((n+1:Nat):Int)))=true:=by simp;omega
theorem iH{b:Bool}(hb:b=true){es:List SV}{idx:Nat}{cs vs:List SV}{K:List SV->Prop}(hi:idx=es.length)(hl:cs.length=vs.length):
  cY b (match fm (es++[.agg cs]) idx with|some u=>pG u (.agg vs) 0 (fun w'=>rE (es++[.agg cs]) idx w' K)|none=>False)=K (es++[.agg vs]):=by
 subst hb;subst hi
 have e:fm (es++[SV.agg cs]) es.length=some (.agg cs):=by
  rw[cM,List.getElem?_append_right (Nat.le_refl _)];simp
 rw[e];show kN cs 0 vs _=_;have h1:fL cs 0 vs=vs:=by have:=rW vs cs [] hl;simpa using this
 refine propext (ff.trans ?_);rw[h1];show(_/\rE (es++[SV.agg cs]) es.length (SV.agg vs) K)<->_;rw[fy,List.set_append_right _ _ (Nat.le_refl _)];simp;omega
theorem jN{es:List SV}{idx:Nat}{w v:SV}{K:List SV->Prop}(hi:idx=es.length)(hk:K (es++[v])){cs vs:List SV}(hw:w= .agg cs:=by rfl)(hv:v= .agg vs:=by rfl)(hl:cs.length=vs.length:=by rfl):
  (match fm (es++[w]) idx with|some u=>pG u v 0 (fun w'=>rE (es++[w]) idx w' K)|none=>False):=by
 subst hi;subst hw;subst hv
 have e:fm (es++[SV.agg cs]) es.length=some (.agg cs):=by
  rw[cM,List.getElem?_append_right (Nat.le_refl _)];simp
 rw[e];show kN cs 0 vs _;refine Ft hl ?_;exact fy.2 ⟨by simp,by rw[List.set_append_right _ _ (Nat.le_refl _)];simpa using hk⟩
theorem VJ{l:List SV}{gr:SV}(hg:aL gr)(h: ∀a∈l,GO a=true\/a=gr:=by simp[GO]): ∀a∈l,aL a:=fun a ha=>by
 rcases h a ha with h|rfl
 ·exact Dx h
 ·exact hg
theorem fP{n:Nat}{v:SV}(h:SV.lt 8 n v=true): ∀u∈[v],SV.lt 8 n u=true:=fun u hu=>by rw[List.mem_singleton.1 hu];exact h
attribute [local irreducible] aS bH
theorem Dy{A:Heap}:bA A (.agg [.bool true,.int .u8 0,.int .u8 0,.int .i64 0,.str [],.str [],.str [],.int .i64 0,.int .u8 0,.af,.str []]) (PX ⟨true,GD,[]⟩):=
 fI.get (.cons (.lit (.bool _)) (.cons (.lit (.int _ _)) (.cons (.lit (.int _ _)) (.cons (.lit (.int _ _)) (.cons (.lit (.str _)) (.cons (.lit (.str _)) (.cons (.lit (.str _)) (.cons (.lit (.int _ _)) (.cons (.lit (.int _ _)) (.cons .nil (.cons (.lit (.str _)) .nil)))))))))))
def Zv(G:List UInt8->Prop)(x:MY):Prop:=(x.all=true/\x.x=GD/\x.nm=[])\/(x.all=false/\fO G x.x/\(x.nm=[]\/G x.nm))
section
variable {l:List TP} {m e:Nat} {G:List UInt8->Prop}
theorem Lu:p9 (fun v=>BA (uj 1 [] [] .af .af false .af .af v .af .af .af (-1) .af)):=qA (pre:=[.int .u8 1,.str [],.str [],.af,.af,.bool false,.af,.af]) (post:=[.af,.int .u8 0,.int .u8 0,.int .i64 0,.str [],.str [],.str [],.int .i64 0,.int .u8 0,.af,.af,.af,.int .i64 (-1),.af]) (dP rfl) (dP rfl)
theorem Lw(hl:ig l G):vl true 154 l m 0 (fun v=>BA (uj 1 [] [] .af .af false .af .af v .af .af .af (-1) .af)) 203 11 (ri (aO l) (kX bC) (iP l)) PX (Zv G):= .of Lu rfl oN (fun i hi=>by
 have qV:=hl.len;have hX:=iG (m:=m) hl;have cn:=gj (m:=m) (e:=0) hl;refine KE.call mixed rfl ?_;iterate 44 all_goals ((try conv=>whnf);try first|(with_reducible first|refine zY ?_|refine zN ?_|refine zT ?_|refine br (fun _=> ?_) (fun _=> ?_)|refine⟨rfl,?_⟩)|(refine eI (fun _ _=> ?_) (fun _=> ?_))|(refine hX.go (fun x j _ _ _ _=> ?_) (fun er j _ _=> ?_))|(refine cn.go (fun x j _ _ _ _=> ?_) (fun er j _ _=> ?_))|(refine eW rfl (by decide) ?_)|(exact gp (by simp only[*,ri,JH,bB.then,↓reduceIte,Bool.false_eq_true])))
 all_goals first
  |exact rj (x:=⟨true,GD,[]⟩) (fun k=>Nat.blt 2 k&& !Nat.beq k 4) (.cons (oK Dy) .refl) (by simp only[*,ri,JH,bB.then,↓reduceIte,Bool.false_eq_true]<;>rfl) (.inl ⟨rfl,rfl,rfl⟩) (by omega) (by omega) (oN _)
  |exact rj (x:=⟨false,_,[]⟩) (fun k=>Nat.blt 2 k&& !Nat.beq k 5) .refl (by simp only[*,ri,JH,bB.then,↓reduceIte,Bool.false_eq_true]<;>rfl) (.inr ⟨rfl,by assumption,.inl rfl⟩) (by omega) (by omega) (oN _)
  |exact rj (x:=⟨false,_,_⟩) (fun k=>Nat.blt 2 k&& !Nat.beq k 5) .refl (by simp only[*,ri,JH,bB.then,↓reduceIte,Bool.false_eq_true]<;>rfl) (.inr ⟨rfl,by assumption,.inr (by assumption)⟩) (by omega) (by omega) (oN _))
 (fun i g xs hi hx=>by
 have qV:=hl.len;have hX:=iG (m:=m) hl;have cn:=gj (m:=m) (e:=0) hl;refine KE.call mixed rfl ?_;iterate 44 all_goals ((try conv=>whnf);try first|(with_reducible first|refine zY ?_|refine zN ?_|refine zT ?_|refine br (fun _=> ?_) (fun _=> ?_)|refine⟨rfl,?_⟩)|(refine eI (fun _ _=> ?_) (fun _=> ?_))|(refine hX.go (fun x j _ _ _ _=> ?_) (fun er j _ _=> ?_))|(refine cn.go (fun x j _ _ _ _=> ?_) (fun er j _ _=> ?_))|(refine eu rfl rfl (by decide) rfl (by omega) (by omega) ?_)|(exact gp (by simp only[*,ri,JH,bB.then,↓reduceIte,Bool.false_eq_true])))
 all_goals first
  |exact rm (x:=⟨true,GD,[]⟩) (fun k=>Nat.blt 3 k) (.cons (IQ Dy) .refl) (by simp only[*,ri,JH,bB.then,↓reduceIte,Bool.false_eq_true]<;>rfl) (.inl ⟨rfl,rfl,rfl⟩) (by omega) (by omega) (oN _)
  |exact rm (x:=⟨false,_,[]⟩) (fun k=>Nat.blt 3 k) .refl (by simp only[*,ri,JH,bB.then,↓reduceIte,Bool.false_eq_true]<;>rfl) (.inr ⟨rfl,by assumption,.inl rfl⟩) (by omega) (by omega) (oN _)
  |exact rm (x:=⟨false,_,_⟩) (fun k=>Nat.blt 3 k) .refl (by simp only[*,ri,JH,bB.then,↓reduceIte,Bool.false_eq_true]<;>rfl) (.inr ⟨rfl,by assumption,.inr (by assumption)⟩) (by omega) (by omega) (oN _))
end
end
end Go.Proofs.YtegmnocpkgpgeaaGreatDoor
