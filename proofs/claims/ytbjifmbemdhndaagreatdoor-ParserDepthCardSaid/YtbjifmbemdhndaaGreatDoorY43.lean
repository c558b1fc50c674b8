/- Parts of the proof of PParserDepth, one behind the other, with short names. -/
import Derived.Test.YtbjifmbemdhndaaGreatDoorY35
set_option linter.unusedVariables false
set_option linter.unusedSimpArgs false
namespace Go.Proofs.YtbjifmbemdhndaaGreatDoor
open Ab Go.RowKit
set_option maxRecDepth 100000
set_option maxHeartbeats 4000000
attribute [local irreducible] aO
section
variable {l:List TP} {m e:Nat}
theorem qU(r:cH Ex):M7 (Ct l m r):=match r with
 | .ok x _=>aq x
 | .bad _ _=>av _ _
@[reducible] def AW:aA:= .vec 0 9 [.agg [.int .u8 0,.int .u8 0,.int .i64 0,.str [],.str [],.str [],.int .i64 0,.int .u8 0,.ak]] ⟨false,some 30⟩
theorem H6(hl:l.length<=65536){part:Nat->cH Ex}(hp:rU l m e 61 part)
  (hmono: ∀i x j,i<=l.length->part i= .ok x j->i<=j/\j<=l.length):rU l m e 22 (eV (aX l) l.length kN part):=by
 intro i hi;unfold eV;cases hf:part i with
 |bad er j=>
  have c:=hp.bad hi hf;refine⟨aV,ai ..,ai ..,av ..,G6.call mixed rfl ?_⟩;iterate 20 all_goals ((try conv=>whnf);try first|(with_reducible first|refine zY ?_|refine zN ?_|refine zT ?_|refine br (fun _=> ?_) (fun _=> ?_)|refine⟨rfl,?_⟩)|(refine qL.call mixed rfl ?_)|(refine c.cZ rfl fun h=> ?_))
  exact cI (av _ _)
 |ok x j=>
  have c:=hp.ok hi hf;have hj:=hmono i x j hi hf;obtain⟨op,v,tb,nm,slot,kd,args⟩:=x;rw[aB]at c;dsimp only[cH.then];generalize hr:cB (aX l) kN part l.length (.mk op v tb nm slot kd args) j=r;refine⟨aV,ai ..,ai ..,qU r,G6.call mixed rfl ?_⟩;iterate 20 all_goals ((try conv=>whnf);try first|(with_reducible first|refine zY ?_|refine zN ?_|refine zT ?_|refine br (fun _=> ?_) (fun _=> ?_)|refine⟨rfl,?_⟩)|(refine qL.call mixed rfl ?_)|(refine c.call rfl ?_))
  refine ox (σ:={s:Nat×Ex×Nat // s.2.2<=l.length/\l.length<=s.2.2+s.1/\cB (aX l) kN part s.1 s.2.1 s.2.2=r})
   (fun s=>[(0,.ref 0 0 0 0),(1,.func (.func 61) [.ref 0 0 0 0] []),(2,.cJ 2 0),(6,.ref 3 0 0 0),(7,.ref 4 0 0 0)])
   (fun s=>⟨5,[(4,.vec 0 9 [kq s.1.2.1] ⟨false,some 30⟩),(3,AW),(2,.map [(.str [111,114],.int .u8 16,0)] 1),(1,AW),(0,gQ l s.1.2.2 m e)]⟩)
   (fun s=>l.length-s.1.2.2) (fun _=>5) (fun _=>Nat.le_refl 5) ?_ ⟨(l.length,.mk op v tb nm slot kd args,j),hj.2,Nat.le_add_left _ _,hr⟩
  clear hr c hf hj hi;rintro⟨⟨f,⟨op,v,tb,nm,slot,kd,args⟩,i⟩,hi,Du,hgo⟩;dsimp only at hi Du hgo ⊢;rw[aB];have cp:=iV (l:=l) (m:=m) (e:=e) i
  have stop:ie kN (aX l i)=none->r= .ok (.mk op v tb nm slot kd args) i:=fun h=>by
   rw[<- hgo];cases f<;>simp[cB,h]
  have go: ∀o,ie kN (aX l i)=some o->i<l.length-> ∃f',l.length<=i+1+f'/\(part (i+1)).then (fun y j=>cB (aX l) kN part f' (kz o [.mk op v tb nm slot kd args,y]) j)=r:=fun o h hlt=>by
   obtain⟨f',rfl⟩: ∃f',f=f'+1:=⟨f-1,by omega⟩;refine⟨f',by omega,?_⟩;rw[<- hgo,cB,h]
  cases hk:((l.getD i aH).1.k==1||(l.getD i aH).1.k==4)with
  |false=>
   have hkk:=hk;simp only[Bool.or_eq_false_iff]at hkk;have n1:((l.getD i aH).1.k !=1)=true:=by unfold bne;rw[hkk.1];rfl
   have n4:((l.getD i aH).1.k !=4)=true:=by unfold bne;rw[hkk.2];rfl
   obtain rfl:=stop (by unfold ie;rw[show (((aX l i).k==1||(aX l i).k==4))=false from hk];rfl);iterate 40 all_goals ((try conv=>whnf);try first|(with_reducible first|refine zY ?_|refine zN ?_|refine zT ?_|refine br (fun _=> ?_) (fun _=> ?_)|refine⟨rfl,?_⟩)|(refine cp.call rfl ?_))
   all_goals exact cO (.lit (aq (.mk op v tb nm slot kd args))) rfl
  |true=>
   have hlt:i<l.length:=by
    rcases Bool.or_eq_true_iff.1 hk with h|h
    ·exact cD h (by decide)
    ·exact cD h (by decide)
   have e7:IntKind.i64.wrap ((i:Int)+1)=((i+1:Nat):Int):=bL (by omega)
   have AX:(l.getD i aH).1.k=1\/((l.getD i aH).1.k !=1)=true/\((l.getD i aH).1.k !=4)=false:=by
    by_cases h:(l.getD i aH).1.k=1
    ·exact .inl h
    ·have h4:(l.getD i aH).1.k=4:=by
      rcases Bool.or_eq_true_iff.1 hk with h'|h'
      ·exact absurd (beq_iff_eq.1 h') h
      ·exact beq_iff_eq.1 h'
     exact .inr ⟨by rw[h4];rfl,by rw[h4];rfl⟩
   have hfind:ie kN (aX l i)=find? kN (aX l i).t:=by unfold ie;rw[show (((aX l i).k==1||(aX l i).k==4))=true from hk];rfl
   rcases AX with h1|⟨n1,n4⟩
   ·have n1:((l.getD i aH).1.k !=1)=false:=by rw[h1];rfl
    cases oY:((l.getD i aH).1.t==[111,114])with
    |true=>
     obtain⟨f',qe,bz⟩:=go 16 (by rw[hfind];unfold kN;simp only[find?,oY,if_true,if_false,Bool.false_eq_true]) hlt;cases hf:part (i+1)with
     |bad er j=>
      have c:=hp.bad hlt hf;rw[hf]at bz;obtain rfl:cH.bad er j=r:=bz;iterate 40 all_goals ((try conv=>whnf);try first|(with_reducible first|refine zY ?_|refine zN ?_|refine zT ?_|refine br (fun _=> ?_) (fun _=> ?_)|refine⟨rfl,?_⟩)|(refine cp.call rfl ?_)|(refine c.cZ (by rw[e7];rfl) fun h=> ?_))
      exact cI (av _ _)
     |ok y j=>
      have c:=hp.ok hlt hf;have hj:=hmono _ _ _ hlt hf;obtain⟨eY,yv,eZ,fc,aY,fe,aZ⟩:=y;rw[aB]at c;rw[hf]at bz;dsimp only[cH.then]at bz;iterate 40 all_goals ((try conv=>whnf);try first|(with_reducible first|refine zY ?_|refine zN ?_|refine zT ?_|refine br (fun _=> ?_) (fun _=> ?_)|refine⟨rfl,?_⟩)|(refine cp.call rfl ?_)|(refine c.call (by rw[e7];rfl) ?_))
      refine⟨fun j=>Nat.beq j 6,_,_,cU,.cons (.same _) (.cons (eH (bX (c9 (x:= .mk op v tb nm slot kd args) (y:= .mk eY yv eZ fc aY fe aZ) rfl (.lit (aq (.mk op v tb nm slot kd args))) (.lit (aq (.mk eY yv eZ fc aY fe aZ)))))) .refl),?_⟩;iterate 12 all_goals ((try conv=>whnf);try first|(with_reducible first|refine zY ?_|refine zN ?_|refine zT ?_|refine br (fun _=> ?_) (fun _=> ?_)|refine⟨rfl,?_⟩))
      exact⟨⟨(f',kz 16 [.mk op v tb nm slot kd args,.mk eY yv eZ fc aY fe aZ],j),hj.2,by dsimp only;omega,bz⟩,by dsimp only;omega,rfl,rfl⟩
    |false=>
     obtain rfl:=stop (by rw[hfind];unfold kN;simp only[find?,oY,if_true,if_false,Bool.false_eq_true]);iterate 40 all_goals ((try conv=>whnf);try first|(with_reducible first|refine zY ?_|refine zN ?_|refine zT ?_|refine br (fun _=> ?_) (fun _=> ?_)|refine⟨rfl,?_⟩)|(refine cp.call rfl ?_))
     all_goals exact cO (.lit (aq (.mk op v tb nm slot kd args))) rfl
   ·skip
    cases oY:((l.getD i aH).1.t==[111,114])with
    |true=>
     obtain⟨f',qe,bz⟩:=go 16 (by rw[hfind];unfold kN;simp only[find?,oY,if_true,if_false,Bool.false_eq_true]) hlt;cases hf:part (i+1)with
     |bad er j=>
      have c:=hp.bad hlt hf;rw[hf]at bz;obtain rfl:cH.bad er j=r:=bz;iterate 40 all_goals ((try conv=>whnf);try first|(with_reducible first|refine zY ?_|refine zN ?_|refine zT ?_|refine br (fun _=> ?_) (fun _=> ?_)|refine⟨rfl,?_⟩)|(refine cp.call rfl ?_)|(refine c.cZ (by rw[e7];rfl) fun h=> ?_))
      exact cI (av _ _)
     |ok y j=>
      have c:=hp.ok hlt hf;have hj:=hmono _ _ _ hlt hf;obtain⟨eY,yv,eZ,fc,aY,fe,aZ⟩:=y;rw[aB]at c;rw[hf]at bz;dsimp only[cH.then]at bz;iterate 40 all_goals ((try conv=>whnf);try first|(with_reducible first|refine zY ?_|refine zN ?_|refine zT ?_|refine br (fun _=> ?_) (fun _=> ?_)|refine⟨rfl,?_⟩)|(refine cp.call rfl ?_)|(refine c.call (by rw[e7];rfl) ?_))
      refine⟨fun j=>Nat.beq j 6,_,_,cU,.cons (.same _) (.cons (eH (bX (c9 (x:= .mk op v tb nm slot kd args) (y:= .mk eY yv eZ fc aY fe aZ) rfl (.lit (aq (.mk op v tb nm slot kd args))) (.lit (aq (.mk eY yv eZ fc aY fe aZ)))))) .refl),?_⟩;iterate 12 all_goals ((try conv=>whnf);try first|(with_reducible first|refine zY ?_|refine zN ?_|refine zT ?_|refine br (fun _=> ?_) (fun _=> ?_)|refine⟨rfl,?_⟩))
      exact⟨⟨(f',kz 16 [.mk op v tb nm slot kd args,.mk eY yv eZ fc aY fe aZ],j),hj.2,by dsimp only;omega,bz⟩,by dsimp only;omega,rfl,rfl⟩
    |false=>
     obtain rfl:=stop (by rw[hfind];unfold kN;simp only[find?,oY,if_true,if_false,Bool.false_eq_true]);iterate 40 all_goals ((try conv=>whnf);try first|(with_reducible first|refine zY ?_|refine zN ?_|refine zT ?_|refine br (fun _=> ?_) (fun _=> ?_)|refine⟨rfl,?_⟩)|(refine cp.call rfl ?_))
     all_goals exact cO (.lit (aq (.mk op v tb nm slot kd args))) rfl
theorem JO(hl:l.length<=65536){part:Nat->cH Ex}(hp:rU l m e 120 part)
  (hmono: ∀i x j,i<=l.length->part i= .ok x j->i<=j/\j<=l.length):rU l m e 61 (eV (aX l) l.length gh part):=by
 intro i hi;unfold eV;cases hf:part i with
 |bad er j=>
  have c:=hp.bad hi hf;refine⟨aV,ai ..,ai ..,av ..,He.call mixed rfl ?_⟩;iterate 20 all_goals ((try conv=>whnf);try first|(with_reducible first|refine zY ?_|refine zN ?_|refine zT ?_|refine br (fun _=> ?_) (fun _=> ?_)|refine⟨rfl,?_⟩)|(refine qL.call mixed rfl ?_)|(refine c.cZ rfl fun h=> ?_))
  exact cI (av _ _)
 |ok x j=>
  have c:=hp.ok hi hf;have hj:=hmono i x j hi hf;obtain⟨op,v,tb,nm,slot,kd,args⟩:=x;rw[aB]at c;dsimp only[cH.then];generalize hr:cB (aX l) gh part l.length (.mk op v tb nm slot kd args) j=r;refine⟨aV,ai ..,ai ..,qU r,He.call mixed rfl ?_⟩;iterate 20 all_goals ((try conv=>whnf);try first|(with_reducible first|refine zY ?_|refine zN ?_|refine zT ?_|refine br (fun _=> ?_) (fun _=> ?_)|refine⟨rfl,?_⟩)|(refine qL.call mixed rfl ?_)|(refine c.call rfl ?_))
  refine ox (σ:={s:Nat×Ex×Nat // s.2.2<=l.length/\l.length<=s.2.2+s.1/\cB (aX l) gh part s.1 s.2.1 s.2.2=r})
   (fun s=>[(0,.ref 0 0 0 0),(1,.func (.func 120) [.ref 0 0 0 0] []),(2,.cJ 2 0),(6,.ref 3 0 0 0),(7,.ref 4 0 0 0)])
   (fun s=>⟨5,[(4,.vec 0 9 [kq s.1.2.1] ⟨false,some 30⟩),(3,AW),(2,.map [(.str [97,110,100],.int .u8 15,0)] 1),(1,AW),(0,gQ l s.1.2.2 m e)]⟩)
   (fun s=>l.length-s.1.2.2) (fun _=>5) (fun _=>Nat.le_refl 5) ?_ ⟨(l.length,.mk op v tb nm slot kd args,j),hj.2,Nat.le_add_left _ _,hr⟩
  clear hr c hf hj hi;rintro⟨⟨f,⟨op,v,tb,nm,slot,kd,args⟩,i⟩,hi,Du,hgo⟩;dsimp only at hi Du hgo ⊢;rw[aB];have cp:=iV (l:=l) (m:=m) (e:=e) i
  have stop:ie gh (aX l i)=none->r= .ok (.mk op v tb nm slot kd args) i:=fun h=>by
   rw[<- hgo];cases f<;>simp[cB,h]
  have go: ∀o,ie gh (aX l i)=some o->i<l.length-> ∃f',l.length<=i+1+f'/\(part (i+1)).then (fun y j=>cB (aX l) gh part f' (kz o [.mk op v tb nm slot kd args,y]) j)=r:=fun o h hlt=>by
   obtain⟨f',rfl⟩: ∃f',f=f'+1:=⟨f-1,by omega⟩;refine⟨f',by omega,?_⟩;rw[<- hgo,cB,h]
  cases hk:((l.getD i aH).1.k==1||(l.getD i aH).1.k==4)with
  |false=>
   have hkk:=hk;simp only[Bool.or_eq_false_iff]at hkk;have n1:((l.getD i aH).1.k !=1)=true:=by unfold bne;rw[hkk.1];rfl
   have n4:((l.getD i aH).1.k !=4)=true:=by unfold bne;rw[hkk.2];rfl
   obtain rfl:=stop (by unfold ie;rw[show (((aX l i).k==1||(aX l i).k==4))=false from hk];rfl);iterate 40 all_goals ((try conv=>whnf);try first|(with_reducible first|refine zY ?_|refine zN ?_|refine zT ?_|refine br (fun _=> ?_) (fun _=> ?_)|refine⟨rfl,?_⟩)|(refine cp.call rfl ?_))
   all_goals exact cO (.lit (aq (.mk op v tb nm slot kd args))) rfl
  |true=>
   have hlt:i<l.length:=by
    rcases Bool.or_eq_true_iff.1 hk with h|h
    ·exact cD h (by decide)
    ·exact cD h (by decide)
   have e7:IntKind.i64.wrap ((i:Int)+1)=((i+1:Nat):Int):=bL (by omega)
   have AX:(l.getD i aH).1.k=1\/((l.getD i aH).1.k !=1)=true/\((l.getD i aH).1.k !=4)=false:=by
    by_cases h:(l.getD i aH).1.k=1
    ·exact .inl h
    ·have h4:(l.getD i aH).1.k=4:=by
      rcases Bool.or_eq_true_iff.1 hk with h'|h'
      ·exact absurd (beq_iff_eq.1 h') h
      ·exact beq_iff_eq.1 h'
     exact .inr ⟨by rw[h4];rfl,by rw[h4];rfl⟩
   have hfind:ie gh (aX l i)=find? gh (aX l i).t:=by unfold ie;rw[show (((aX l i).k==1||(aX l i).k==4))=true from hk];rfl
   rcases AX with h1|⟨n1,n4⟩
   ·have n1:((l.getD i aH).1.k !=1)=false:=by rw[h1];rfl
    cases oY:((l.getD i aH).1.t==[97,110,100])with
    |true=>
     obtain⟨f',qe,bz⟩:=go 15 (by rw[hfind];unfold gh;simp only[find?,oY,if_true,if_false,Bool.false_eq_true]) hlt;cases hf:part (i+1)with
     |bad er j=>
      have c:=hp.bad hlt hf;rw[hf]at bz;obtain rfl:cH.bad er j=r:=bz;iterate 40 all_goals ((try conv=>whnf);try first|(with_reducible first|refine zY ?_|refine zN ?_|refine zT ?_|refine br (fun _=> ?_) (fun _=> ?_)|refine⟨rfl,?_⟩)|(refine cp.call rfl ?_)|(refine c.cZ (by rw[e7];rfl) fun h=> ?_))
      exact cI (av _ _)
     |ok y j=>
      have c:=hp.ok hlt hf;have hj:=hmono _ _ _ hlt hf;obtain⟨eY,yv,eZ,fc,aY,fe,aZ⟩:=y;rw[aB]at c;rw[hf]at bz;dsimp only[cH.then]at bz;iterate 40 all_goals ((try conv=>whnf);try first|(with_reducible first|refine zY ?_|refine zN ?_|refine zT ?_|refine br (fun _=> ?_) (fun _=> ?_)|refine⟨rfl,?_⟩)|(refine cp.call rfl ?_)|(refine c.call (by rw[e7];rfl) ?_))
      refine⟨fun j=>Nat.beq j 6,_,_,cU,.cons (.same _) (.cons (eH (bX (c9 (x:= .mk op v tb nm slot kd args) (y:= .mk eY yv eZ fc aY fe aZ) rfl (.lit (aq (.mk op v tb nm slot kd args))) (.lit (aq (.mk eY yv eZ fc aY fe aZ)))))) .refl),?_⟩;iterate 12 all_goals ((try conv=>whnf);try first|(with_reducible first|refine zY ?_|refine zN ?_|refine zT ?_|refine br (fun _=> ?_) (fun _=> ?_)|refine⟨rfl,?_⟩))
      exact⟨⟨(f',kz 15 [.mk op v tb nm slot kd args,.mk eY yv eZ fc aY fe aZ],j),hj.2,by dsimp only;omega,bz⟩,by dsimp only;omega,rfl,rfl⟩
    |false=>
     obtain rfl:=stop (by rw[hfind];unfold gh;simp only[find?,oY,if_true,if_false,Bool.false_eq_true]);iterate 40 all_goals ((try conv=>whnf);try first|(with_reducible first|refine zY ?_|refine zN ?_|refine zT ?_|refine br (fun _=> ?_) (fun _=> ?_)|refine⟨rfl,?_⟩)|(refine cp.call rfl ?_))
     all_goals exact cO (.lit (aq (.mk op v tb nm slot kd args))) rfl
   ·skip
    cases oY:((l.getD i aH).1.t==[97,110,100])with
    |true=>
     obtain⟨f',qe,bz⟩:=go 15 (by rw[hfind];unfold gh;simp only[find?,oY,if_true,if_false,Bool.false_eq_true]) hlt;cases hf:part (i+1)with
     |bad er j=>
      have c:=hp.bad hlt hf;rw[hf]at bz;obtain rfl:cH.bad er j=r:=bz;iterate 40 all_goals ((try conv=>whnf);try first|(with_reducible first|refine zY ?_|refine zN ?_|refine zT ?_|refine br (fun _=> ?_) (fun _=> ?_)|refine⟨rfl,?_⟩)|(refine cp.call rfl ?_)|(refine c.cZ (by rw[e7];rfl) fun h=> ?_))
      exact cI (av _ _)
     |ok y j=>
      have c:=hp.ok hlt hf;have hj:=hmono _ _ _ hlt hf;obtain⟨eY,yv,eZ,fc,aY,fe,aZ⟩:=y;rw[aB]at c;rw[hf]at bz;dsimp only[cH.then]at bz;iterate 40 all_goals ((try conv=>whnf);try first|(with_reducible first|refine zY ?_|refine zN ?_|refine zT ?_|refine br (fun _=> ?_) (fun _=> ?_)|refine⟨rfl,?_⟩)|(refine cp.call rfl ?_)|(refine c.call (by rw[e7];rfl) ?_))
      refine⟨fun j=>Nat.beq j 6,_,_,cU,.cons (.same _) (.cons (eH (bX (c9 (x:= .mk op v tb nm slot kd args) (y:= .mk eY yv eZ fc aY fe aZ) rfl (.lit (aq (.mk op v tb nm slot kd args))) (.lit (aq (.mk eY yv eZ fc aY fe aZ)))))) .refl),?_⟩;iterate 12 all_goals ((try conv=>whnf);try first|(with_reducible first|refine zY ?_|refine zN ?_|refine zT ?_|refine br (fun _=> ?_) (fun _=> ?_)|refine⟨rfl,?_⟩))
      exact⟨⟨(f',kz 15 [.mk op v tb nm slot kd args,.mk eY yv eZ fc aY fe aZ],j),hj.2,by dsimp only;omega,bz⟩,by dsimp only;omega,rfl,rfl⟩
    |false=>
     obtain rfl:=stop (by rw[hfind];unfold gh;simp only[find?,oY,if_true,if_false,Bool.false_eq_true]);iterate 40 all_goals ((try conv=>whnf);try first|(with_reducible first|refine zY ?_|refine zN ?_|refine zT ?_|refine br (fun _=> ?_) (fun _=> ?_)|refine⟨rfl,?_⟩)|(refine cp.call rfl ?_))
     all_goals exact cO (.lit (aq (.mk op v tb nm slot kd args))) rfl
theorem JP(hl:l.length<=65536){part:Nat->cH Ex}(hp:rU l m e 224 part)
  (hmono: ∀i x j,i<=l.length->part i= .ok x j->i<=j/\j<=l.length):rU l m e 203 (eV (aX l) l.length eA part):=by
 intro i hi;unfold eV;cases hf:part i with
 |bad er j=>
  have c:=hp.bad hi hf;refine⟨aV,ai ..,ai ..,av ..,Ch.call mixed rfl ?_⟩;iterate 20 all_goals ((try conv=>whnf);try first|(with_reducible first|refine zY ?_|refine zN ?_|refine zT ?_|refine br (fun _=> ?_) (fun _=> ?_)|refine⟨rfl,?_⟩)|(refine qL.call mixed rfl ?_)|(refine c.cZ rfl fun h=> ?_))
  exact cI (av _ _)
 |ok x j=>
  have c:=hp.ok hi hf;have hj:=hmono i x j hi hf;obtain⟨op,v,tb,nm,slot,kd,args⟩:=x;rw[aB]at c;dsimp only[cH.then];generalize hr:cB (aX l) eA part l.length (.mk op v tb nm slot kd args) j=r;refine⟨aV,ai ..,ai ..,qU r,Ch.call mixed rfl ?_⟩;iterate 20 all_goals ((try conv=>whnf);try first|(with_reducible first|refine zY ?_|refine zN ?_|refine zT ?_|refine br (fun _=> ?_) (fun _=> ?_)|refine⟨rfl,?_⟩)|(refine qL.call mixed rfl ?_)|(refine c.call rfl ?_))
  refine ox (σ:={s:Nat×Ex×Nat // s.2.2<=l.length/\l.length<=s.2.2+s.1/\cB (aX l) eA part s.1 s.2.1 s.2.2=r})
   (fun s=>[(0,.ref 0 0 0 0),(1,.func (.func 224) [.ref 0 0 0 0] []),(2,.cJ 2 0),(6,.ref 3 0 0 0),(7,.ref 4 0 0 0)])
   (fun s=>⟨5,[(4,.vec 0 9 [kq s.1.2.1] ⟨false,some 30⟩),(3,AW),(2,.map [(.str [43],.int .u8 3,0),(.str [45],.int .u8 4,1),(.str [124,124],.int .u8 8,2)] 3),(1,AW),(0,gQ l s.1.2.2 m e)]⟩)
   (fun s=>l.length-s.1.2.2) (fun _=>5) (fun _=>Nat.le_refl 5) ?_ ⟨(l.length,.mk op v tb nm slot kd args,j),hj.2,Nat.le_add_left _ _,hr⟩
  clear hr c hf hj hi;rintro⟨⟨f,⟨op,v,tb,nm,slot,kd,args⟩,i⟩,hi,Du,hgo⟩;dsimp only at hi Du hgo ⊢;rw[aB];have cp:=iV (l:=l) (m:=m) (e:=e) i
  have stop:ie eA (aX l i)=none->r= .ok (.mk op v tb nm slot kd args) i:=fun h=>by
   rw[<- hgo];cases f<;>simp[cB,h]
  have go: ∀o,ie eA (aX l i)=some o->i<l.length-> ∃f',l.length<=i+1+f'/\(part (i+1)).then (fun y j=>cB (aX l) eA part f' (kz o [.mk op v tb nm slot kd args,y]) j)=r:=fun o h hlt=>by
   obtain⟨f',rfl⟩: ∃f',f=f'+1:=⟨f-1,by omega⟩;refine⟨f',by omega,?_⟩;rw[<- hgo,cB,h]
  cases hk:((l.getD i aH).1.k==1||(l.getD i aH).1.k==4)with
  |false=>
   have hkk:=hk;simp only[Bool.or_eq_false_iff]at hkk;have n1:((l.getD i aH).1.k !=1)=true:=by unfold bne;rw[hkk.1];rfl
   have n4:((l.getD i aH).1.k !=4)=true:=by unfold bne;rw[hkk.2];rfl
   obtain rfl:=stop (by unfold ie;rw[show (((aX l i).k==1||(aX l i).k==4))=false from hk];rfl);iterate 40 all_goals ((try conv=>whnf);try first|(with_reducible first|refine zY ?_|refine zN ?_|refine zT ?_|refine br (fun _=> ?_) (fun _=> ?_)|refine⟨rfl,?_⟩)|(refine cp.call rfl ?_))
   all_goals exact cO (.lit (aq (.mk op v tb nm slot kd args))) rfl
  |true=>
   have hlt:i<l.length:=by
    rcases Bool.or_eq_true_iff.1 hk with h|h
    ·exact cD h (by decide)
    ·exact cD h (by decide)
   have e7:IntKind.i64.wrap ((i:Int)+1)=((i+1:Nat):Int):=bL (by omega)
   have AX:(l.getD i aH).1.k=1\/((l.getD i aH).1.k !=1)=true/\((l.getD i aH).1.k !=4)=false:=by
    by_cases h:(l.getD i aH).1.k=1
    ·exact .inl h
    ·have h4:(l.getD i aH).1.k=4:=by
      rcases Bool.or_eq_true_iff.1 hk with h'|h'
      ·exact absurd (beq_iff_eq.1 h') h
      ·exact beq_iff_eq.1 h'
     exact .inr ⟨by rw[h4];rfl,by rw[h4];rfl⟩
   have hfind:ie eA (aX l i)=find? eA (aX l i).t:=by unfold ie;rw[show (((aX l i).k==1||(aX l i).k==4))=true from hk];rfl
   rcases AX with h1|⟨n1,n4⟩
   ·have n1:((l.getD i aH).1.k !=1)=false:=by rw[h1];rfl
    cases oY:((l.getD i aH).1.t==[43])with
    |true=>
     obtain⟨f',qe,bz⟩:=go 3 (by rw[hfind];unfold eA;simp only[find?,oY,if_true,if_false,Bool.false_eq_true]) hlt;cases hf:part (i+1)with
     |bad er j=>
      have c:=hp.bad hlt hf;rw[hf]at bz;obtain rfl:cH.bad er j=r:=bz;iterate 40 all_goals ((try conv=>whnf);try first|(with_reducible first|refine zY ?_|refine zN ?_|refine zT ?_|refine br (fun _=> ?_) (fun _=> ?_)|refine⟨rfl,?_⟩)|(refine cp.call rfl ?_)|(refine c.cZ (by rw[e7];rfl) fun h=> ?_))
      exact cI (av _ _)
     |ok y j=>
      have c:=hp.ok hlt hf;have hj:=hmono _ _ _ hlt hf;obtain⟨eY,yv,eZ,fc,aY,fe,aZ⟩:=y;rw[aB]at c;rw[hf]at bz;dsimp only[cH.then]at bz;iterate 40 all_goals ((try conv=>whnf);try first|(with_reducible first|refine zY ?_|refine zN ?_|refine zT ?_|refine br (fun _=> ?_) (fun _=> ?_)|refine⟨rfl,?_⟩)|(refine cp.call rfl ?_)|(refine c.call (by rw[e7];rfl) ?_))
      refine⟨fun j=>Nat.beq j 6,_,_,cU,.cons (.same _) (.cons (eH (bX (c9 (x:= .mk op v tb nm slot kd args) (y:= .mk eY yv eZ fc aY fe aZ) rfl (.lit (aq (.mk op v tb nm slot kd args))) (.lit (aq (.mk eY yv eZ fc aY fe aZ)))))) .refl),?_⟩;iterate 12 all_goals ((try conv=>whnf);try first|(with_reducible first|refine zY ?_|refine zN ?_|refine zT ?_|refine br (fun _=> ?_) (fun _=> ?_)|refine⟨rfl,?_⟩))
      exact⟨⟨(f',kz 3 [.mk op v tb nm slot kd args,.mk eY yv eZ fc aY fe aZ],j),hj.2,by dsimp only;omega,bz⟩,by dsimp only;omega,rfl,rfl⟩
    |false=>
     cases yK:((l.getD i aH).1.t==[45])with
     |true=>
      obtain⟨f',qe,bz⟩:=go 4 (by rw[hfind];unfold eA;simp only[find?,oY,yK,if_true,if_false,Bool.false_eq_true]) hlt;cases hf:part (i+1)with
      |bad er j=>
       have c:=hp.bad hlt hf;rw[hf]at bz;obtain rfl:cH.bad er j=r:=bz;iterate 40 all_goals ((try conv=>whnf);try first|(with_reducible first|refine zY ?_|refine zN ?_|refine zT ?_|refine br (fun _=> ?_) (fun _=> ?_)|refine⟨rfl,?_⟩)|(refine cp.call rfl ?_)|(refine c.cZ (by rw[e7];rfl) fun h=> ?_))
       exact cI (av _ _)
      |ok y j=>
       have c:=hp.ok hlt hf;have hj:=hmono _ _ _ hlt hf;obtain⟨eY,yv,eZ,fc,aY,fe,aZ⟩:=y;rw[aB]at c;rw[hf]at bz;dsimp only[cH.then]at bz;iterate 40 all_goals ((try conv=>whnf);try first|(with_reducible first|refine zY ?_|refine zN ?_|refine zT ?_|refine br (fun _=> ?_) (fun _=> ?_)|refine⟨rfl,?_⟩)|(refine cp.call rfl ?_)|(refine c.call (by rw[e7];rfl) ?_))
       refine⟨fun j=>Nat.beq j 6,_,_,cU,.cons (.same _) (.cons (eH (bX (c9 (x:= .mk op v tb nm slot kd args) (y:= .mk eY yv eZ fc aY fe aZ) rfl (.lit (aq (.mk op v tb nm slot kd args))) (.lit (aq (.mk eY yv eZ fc aY fe aZ)))))) .refl),?_⟩;iterate 12 all_goals ((try conv=>whnf);try first|(with_reducible first|refine zY ?_|refine zN ?_|refine zT ?_|refine br (fun _=> ?_) (fun _=> ?_)|refine⟨rfl,?_⟩))
       exact⟨⟨(f',kz 4 [.mk op v tb nm slot kd args,.mk eY yv eZ fc aY fe aZ],j),hj.2,by dsimp only;omega,bz⟩,by dsimp only;omega,rfl,rfl⟩
     |false=>
      cases DD:((l.getD i aH).1.t==[124,124])with
      |true=>
       obtain⟨f',qe,bz⟩:=go 8 (by rw[hfind];unfold eA;simp only[find?,oY,yK,DD,if_true,if_false,Bool.false_eq_true]) hlt;cases hf:part (i+1)with
       |bad er j=>
        have c:=hp.bad hlt hf;rw[hf]at bz;obtain rfl:cH.bad er j=r:=bz;iterate 40 all_goals ((try conv=>whnf);try first|(with_reducible first|refine zY ?_|refine zN ?_|refine zT ?_|refine br (fun _=> ?_) (fun _=> ?_)|refine⟨rfl,?_⟩)|(refine cp.call rfl ?_)|(refine c.cZ (by rw[e7];rfl) fun h=> ?_))
        exact cI (av _ _)
       |ok y j=>
        have c:=hp.ok hlt hf;have hj:=hmono _ _ _ hlt hf;obtain⟨eY,yv,eZ,fc,aY,fe,aZ⟩:=y;rw[aB]at c;rw[hf]at bz;dsimp only[cH.then]at bz;iterate 40 all_goals ((try conv=>whnf);try first|(with_reducible first|refine zY ?_|refine zN ?_|refine zT ?_|refine br (fun _=> ?_) (fun _=> ?_)|refine⟨rfl,?_⟩)|(refine cp.call rfl ?_)|(refine c.call (by rw[e7];rfl) ?_))
        refine⟨fun j=>Nat.beq j 6,_,_,cU,.cons (.same _) (.cons (eH (bX (c9 (x:= .mk op v tb nm slot kd args) (y:= .mk eY yv eZ fc aY fe aZ) rfl (.lit (aq (.mk op v tb nm slot kd args))) (.lit (aq (.mk eY yv eZ fc aY fe aZ)))))) .refl),?_⟩;iterate 12 all_goals ((try conv=>whnf);try first|(with_reducible first|refine zY ?_|refine zN ?_|refine zT ?_|refine br (fun _=> ?_) (fun _=> ?_)|refine⟨rfl,?_⟩))
        exact⟨⟨(f',kz 8 [.mk op v tb nm slot kd args,.mk eY yv eZ fc aY fe aZ],j),hj.2,by dsimp only;omega,bz⟩,by dsimp only;omega,rfl,rfl⟩
      |false=>
       obtain rfl:=stop (by rw[hfind];unfold eA;simp only[find?,oY,yK,DD,if_true,if_false,Bool.false_eq_true]);iterate 40 all_goals ((try conv=>whnf);try first|(with_reducible first|refine zY ?_|refine zN ?_|refine zT ?_|refine br (fun _=> ?_) (fun _=> ?_)|refine⟨rfl,?_⟩)|(refine cp.call rfl ?_))
       all_goals exact cO (.lit (aq (.mk op v tb nm slot kd args))) rfl
   ·skip
    cases oY:((l.getD i aH).1.t==[43])with
    |true=>
     obtain⟨f',qe,bz⟩:=go 3 (by rw[hfind];unfold eA;simp only[find?,oY,if_true,if_false,Bool.false_eq_true]) hlt;cases hf:part (i+1)with
     |bad er j=>
      have c:=hp.bad hlt hf;rw[hf]at bz;obtain rfl:cH.bad er j=r:=bz;iterate 40 all_goals ((try conv=>whnf);try first|(with_reducible first|refine zY ?_|refine zN ?_|refine zT ?_|refine br (fun _=> ?_) (fun _=> ?_)|refine⟨rfl,?_⟩)|(refine cp.call rfl ?_)|(refine c.cZ (by rw[e7];rfl) fun h=> ?_))
      exact cI (av _ _)
     |ok y j=>
      have c:=hp.ok hlt hf;have hj:=hmono _ _ _ hlt hf;obtain⟨eY,yv,eZ,fc,aY,fe,aZ⟩:=y;rw[aB]at c;rw[hf]at bz;dsimp only[cH.then]at bz;iterate 40 all_goals ((try conv=>whnf);try first|(with_reducible first|refine zY ?_|refine zN ?_|refine zT ?_|refine br (fun _=> ?_) (fun _=> ?_)|refine⟨rfl,?_⟩)|(refine cp.call rfl ?_)|(refine c.call (by rw[e7];rfl) ?_))
      refine⟨fun j=>Nat.beq j 6,_,_,cU,.cons (.same _) (.cons (eH (bX (c9 (x:= .mk op v tb nm slot kd args) (y:= .mk eY yv eZ fc aY fe aZ) rfl (.lit (aq (.mk op v tb nm slot kd args))) (.lit (aq (.mk eY yv eZ fc aY fe aZ)))))) .refl),?_⟩;iterate 12 all_goals ((try conv=>whnf);try first|(with_reducible first|refine zY ?_|refine zN ?_|refine zT ?_|refine br (fun _=> ?_) (fun _=> ?_)|refine⟨rfl,?_⟩))
      exact⟨⟨(f',kz 3 [.mk op v tb nm slot kd args,.mk eY yv eZ fc aY fe aZ],j),hj.2,by dsimp only;omega,bz⟩,by dsimp only;omega,rfl,rfl⟩
    |false=>
     cases yK:((l.getD i aH).1.t==[45])with
     |true=>
      obtain⟨f',qe,bz⟩:=go 4 (by rw[hfind];unfold eA;simp only[find?,oY,yK,if_true,if_false,Bool.false_eq_true]) hlt;cases hf:part (i+1)with
      |bad er j=>
       have c:=hp.bad hlt hf;rw[hf]at bz;obtain rfl:cH.bad er j=r:=bz;iterate 40 all_goals ((try conv=>whnf);try first|(with_reducible first|refine zY ?_|refine zN ?_|refine zT ?_|refine br (fun _=> ?_) (fun _=> ?_)|refine⟨rfl,?_⟩)|(refine cp.call rfl ?_)|(refine c.cZ (by rw[e7];rfl) fun h=> ?_))
       exact cI (av _ _)
      |ok y j=>
       have c:=hp.ok hlt hf;have hj:=hmono _ _ _ hlt hf;obtain⟨eY,yv,eZ,fc,aY,fe,aZ⟩:=y;rw[aB]at c;rw[hf]at bz;dsimp only[cH.then]at bz;iterate 40 all_goals ((try conv=>whnf);try first|(with_reducible first|refine zY ?_|refine zN ?_|refine zT ?_|refine br (fun _=> ?_) (fun _=> ?_)|refine⟨rfl,?_⟩)|(refine cp.call rfl ?_)|(refine c.call (by rw[e7];rfl) ?_))
       refine⟨fun j=>Nat.beq j 6,_,_,cU,.cons (.same _) (.cons (eH (bX (c9 (x:= .mk op v tb nm slot kd args) (y:= .mk eY yv eZ fc aY fe aZ) rfl (.lit (aq (.mk op v tb nm slot kd args))) (.lit (aq (.mk eY yv eZ fc aY fe aZ)))))) .refl),?_⟩;iterate 12 all_goals ((try conv=>whnf);try first|(with_reducible first|refine zY ?_|refine zN ?_|refine zT ?_|refine br (fun _=> ?_) (fun _=> ?_)|refine⟨rfl,?_⟩))
       exact⟨⟨(f',kz 4 [.mk op v tb nm slot kd args,.mk eY yv eZ fc aY fe aZ],j),hj.2,by dsimp only;omega,bz⟩,by dsimp only;omega,rfl,rfl⟩
     |false=>
      cases DD:((l.getD i aH).1.t==[124,124])with
      |true=>
       obtain⟨f',qe,bz⟩:=go 8 (by rw[hfind];unfold eA;simp only[find?,oY,yK,DD,if_true,if_false,Bool.false_eq_true]) hlt;cases hf:part (i+1)with
       |bad er j=>
        have c:=hp.bad hlt hf;rw[hf]at bz;obtain rfl:cH.bad er j=r:=bz;iterate 40 all_goals ((try conv=>whnf);try first|(with_reducible first|refine zY ?_|refine zN ?_|refine zT ?_|refine br (fun _=> ?_) (fun _=> ?_)|refine⟨rfl,?_⟩)|(refine cp.call rfl ?_)|(refine c.cZ (by rw[e7];rfl) fun h=> ?_))
        exact cI (av _ _)
       |ok y j=>
        have c:=hp.ok hlt hf;have hj:=hmono _ _ _ hlt hf;obtain⟨eY,yv,eZ,fc,aY,fe,aZ⟩:=y;rw[aB]at c;rw[hf]at bz;dsimp only[cH.then]at bz;iterate 40 all_goals ((try conv=>whnf);try first|(with_reducible first|refine zY ?_|refine zN ?_|refine zT ?_|refine br (fun _=> ?_) (fun _=> ?_)|refine⟨rfl,?_⟩)|(refine cp.call rfl ?_)|(refine c.call (by rw[e7];rfl) ?_))
        refine⟨fun j=>Nat.beq j 6,_,_,cU,.cons (.same _) (.cons (eH (bX (c9 (x:= .mk op v tb nm slot kd args) (y:= .mk eY yv eZ fc aY fe aZ) rfl (.lit (aq (.mk op v tb nm slot kd args))) (.lit (aq (.mk eY yv eZ fc aY fe aZ)))))) .refl),?_⟩;iterate 12 all_goals ((try conv=>whnf);try first|(with_reducible first|refine zY ?_|refine zN ?_|refine zT ?_|refine br (fun _=> ?_) (fun _=> ?_)|refine⟨rfl,?_⟩))
        exact⟨⟨(f',kz 8 [.mk op v tb nm slot kd args,.mk eY yv eZ fc aY fe aZ],j),hj.2,by dsimp only;omega,bz⟩,by dsimp only;omega,rfl,rfl⟩
      |false=>
       obtain rfl:=stop (by rw[hfind];unfold eA;simp only[find?,oY,yK,DD,if_true,if_false,Bool.false_eq_true]);iterate 40 all_goals ((try conv=>whnf);try first|(with_reducible first|refine zY ?_|refine zN ?_|refine zT ?_|refine br (fun _=> ?_) (fun _=> ?_)|refine⟨rfl,?_⟩)|(refine cp.call rfl ?_))
       all_goals exact cO (.lit (aq (.mk op v tb nm slot kd args))) rfl
theorem AY(hl:l.length<=65536){part:Nat->cH Ex}(hp:rU l m e 240 part)
  (hmono: ∀i x j,i<=l.length->part i= .ok x j->i<=j/\j<=l.length):rU l m e 224 (eV (aX l) l.length eW part):=by
 intro i hi;unfold eV;cases hf:part i with
 |bad er j=>
  have c:=hp.bad hi hf;refine⟨aV,ai ..,ai ..,av ..,Ci.call mixed rfl ?_⟩;iterate 20 all_goals ((try conv=>whnf);try first|(with_reducible first|refine zY ?_|refine zN ?_|refine zT ?_|refine br (fun _=> ?_) (fun _=> ?_)|refine⟨rfl,?_⟩)|(refine qL.call mixed rfl ?_)|(refine c.cZ rfl fun h=> ?_))
  exact cI (av _ _)
 |ok x j=>
  have c:=hp.ok hi hf;have hj:=hmono i x j hi hf;obtain⟨op,v,tb,nm,slot,kd,args⟩:=x;rw[aB]at c;dsimp only[cH.then];generalize hr:cB (aX l) eW part l.length (.mk op v tb nm slot kd args) j=r;refine⟨aV,ai ..,ai ..,qU r,Ci.call mixed rfl ?_⟩;iterate 20 all_goals ((try conv=>whnf);try first|(with_reducible first|refine zY ?_|refine zN ?_|refine zT ?_|refine br (fun _=> ?_) (fun _=> ?_)|refine⟨rfl,?_⟩)|(refine qL.call mixed rfl ?_)|(refine c.call rfl ?_))
  refine ox (σ:={s:Nat×Ex×Nat // s.2.2<=l.length/\l.length<=s.2.2+s.1/\cB (aX l) eW part s.1 s.2.1 s.2.2=r})
   (fun s=>[(0,.ref 0 0 0 0),(1,.func (.func 240) [.ref 0 0 0 0] []),(2,.cJ 2 0),(6,.ref 3 0 0 0),(7,.ref 4 0 0 0)])
   (fun s=>⟨5,[(4,.vec 0 9 [kq s.1.2.1] ⟨false,some 30⟩),(3,AW),(2,.map [(.str [42],.int .u8 5,0),(.str [47],.int .u8 6,1),(.str [37],.int .u8 7,2)] 3),(1,AW),(0,gQ l s.1.2.2 m e)]⟩)
   (fun s=>l.length-s.1.2.2) (fun _=>5) (fun _=>Nat.le_refl 5) ?_ ⟨(l.length,.mk op v tb nm slot kd args,j),hj.2,Nat.le_add_left _ _,hr⟩
  clear hr c hf hj hi;rintro⟨⟨f,⟨op,v,tb,nm,slot,kd,args⟩,i⟩,hi,Du,hgo⟩;dsimp only at hi Du hgo ⊢;rw[aB];have cp:=iV (l:=l) (m:=m) (e:=e) i
  have stop:ie eW (aX l i)=none->r= .ok (.mk op v tb nm slot kd args) i:=fun h=>by
   rw[<- hgo];cases f<;>simp[cB,h]
  have go: ∀o,ie eW (aX l i)=some o->i<l.length-> ∃f',l.length<=i+1+f'/\(part (i+1)).then (fun y j=>cB (aX l) eW part f' (kz o [.mk op v tb nm slot kd args,y]) j)=r:=fun o h hlt=>by
   obtain⟨f',rfl⟩: ∃f',f=f'+1:=⟨f-1,by omega⟩;refine⟨f',by omega,?_⟩;rw[<- hgo,cB,h]
  cases hk:((l.getD i aH).1.k==1||(l.getD i aH).1.k==4)with
  |false=>
   have hkk:=hk;simp only[Bool.or_eq_false_iff]at hkk;have n1:((l.getD i aH).1.k !=1)=true:=by unfold bne;rw[hkk.1];rfl
   have n4:((l.getD i aH).1.k !=4)=true:=by unfold bne;rw[hkk.2];rfl
   obtain rfl:=stop (by unfold ie;rw[show (((aX l i).k==1||(aX l i).k==4))=false from hk];rfl);iterate 40 all_goals ((try conv=>whnf);try first|(with_reducible first|refine zY ?_|refine zN ?_|refine zT ?_|refine br (fun _=> ?_) (fun _=> ?_)|refine⟨rfl,?_⟩)|(refine cp.call rfl ?_))
   all_goals exact cO (.lit (aq (.mk op v tb nm slot kd args))) rfl
  |true=>
   have hlt:i<l.length:=by
    rcases Bool.or_eq_true_iff.1 hk with h|h
    ·exact cD h (by decide)
    ·exact cD h (by decide)
   have e7:IntKind.i64.wrap ((i:Int)+1)=((i+1:Nat):Int):=bL (by omega)
   have AX:(l.getD i aH).1.k=1\/((l.getD i aH).1.k !=1)=true/\((l.getD i aH).1.k !=4)=false:=by
    by_cases h:(l.getD i aH).1.k=1
    ·exact .inl h
    ·have h4:(l.getD i aH).1.k=4:=by
      rcases Bool.or_eq_true_iff.1 hk with h'|h'
      ·exact absurd (beq_iff_eq.1 h') h
      ·exact beq_iff_eq.1 h'
     exact .inr ⟨by rw[h4];rfl,by rw[h4];rfl⟩
   have hfind:ie eW (aX l i)=find? eW (aX l i).t:=by unfold ie;rw[show (((aX l i).k==1||(aX l i).k==4))=true from hk];rfl
   rcases AX with h1|⟨n1,n4⟩
   ·have n1:((l.getD i aH).1.k !=1)=false:=by rw[h1];rfl
    cases oY:((l.getD i aH).1.t==[42])with
    |true=>
     obtain⟨f',qe,bz⟩:=go 5 (by rw[hfind];unfold eW;simp only[find?,oY,if_true,if_false,Bool.false_eq_true]) hlt;cases hf:part (i+1)with
     |bad er j=>
      have c:=hp.bad hlt hf;rw[hf]at bz;obtain rfl:cH.bad er j=r:=bz;iterate 40 all_goals ((try conv=>whnf);try first|(with_reducible first|refine zY ?_|refine zN ?_|refine zT ?_|refine br (fun _=> ?_) (fun _=> ?_)|refine⟨rfl,?_⟩)|(refine cp.call rfl ?_)|(refine c.cZ (by rw[e7];rfl) fun h=> ?_))
      exact cI (av _ _)
     |ok y j=>
      have c:=hp.ok hlt hf;have hj:=hmono _ _ _ hlt hf;obtain⟨eY,yv,eZ,fc,aY,fe,aZ⟩:=y;rw[aB]at c;rw[hf]at bz;dsimp only[cH.then]at bz;iterate 40 all_goals ((try conv=>whnf);try first|(with_reducible first|refine zY ?_|refine zN ?_|refine zT ?_|refine br (fun _=> ?_) (fun _=> ?_)|refine⟨rfl,?_⟩)|(refine cp.call rfl ?_)|(refine c.call (by rw[e7];rfl) ?_))
      refine⟨fun j=>Nat.beq j 6,_,_,cU,.cons (.same _) (.cons (eH (bX (c9 (x:= .mk op v tb nm slot kd args) (y:= .mk eY yv eZ fc aY fe aZ) rfl (.lit (aq (.mk op v tb nm slot kd args))) (.lit (aq (.mk eY yv eZ fc aY fe aZ)))))) .refl),?_⟩;iterate 12 all_goals ((try conv=>whnf);try first|(with_reducible first|refine zY ?_|refine zN ?_|refine zT ?_|refine br (fun _=> ?_) (fun _=> ?_)|refine⟨rfl,?_⟩))
      exact⟨⟨(f',kz 5 [.mk op v tb nm slot kd args,.mk eY yv eZ fc aY fe aZ],j),hj.2,by dsimp only;omega,bz⟩,by dsimp only;omega,rfl,rfl⟩
    |false=>
     cases yK:((l.getD i aH).1.t==[47])with
     |true=>
      obtain⟨f',qe,bz⟩:=go 6 (by rw[hfind];unfold eW;simp only[find?,oY,yK,if_true,if_false,Bool.false_eq_true]) hlt;cases hf:part (i+1)with
      |bad er j=>
       have c:=hp.bad hlt hf;rw[hf]at bz;obtain rfl:cH.bad er j=r:=bz;iterate 40 all_goals ((try conv=>whnf);try first|(with_reducible first|refine zY ?_|refine zN ?_|refine zT ?_|refine br (fun _=> ?_) (fun _=> ?_)|refine⟨rfl,?_⟩)|(refine cp.call rfl ?_)|(refine c.cZ (by rw[e7];rfl) fun h=> ?_))
       exact cI (av _ _)
      |ok y j=>
       have c:=hp.ok hlt hf;have hj:=hmono _ _ _ hlt hf;obtain⟨eY,yv,eZ,fc,aY,fe,aZ⟩:=y;rw[aB]at c;rw[hf]at bz;dsimp only[cH.then]at bz;iterate 40 all_goals ((try conv=>whnf);try first|(with_reducible first|refine zY ?_|refine zN ?_|refine zT ?_|refine br (fun _=> ?_) (fun _=> ?_)|refine⟨rfl,?_⟩)|(refine cp.call rfl ?_)|(refine c.call (by rw[e7];rfl) ?_))
       refine⟨fun j=>Nat.beq j 6,_,_,cU,.cons (.same _) (.cons (eH (bX (c9 (x:= .mk op v tb nm slot kd args) (y:= .mk eY yv eZ fc aY fe aZ) rfl (.lit (aq (.mk op v tb nm slot kd args))) (.lit (aq (.mk eY yv eZ fc aY fe aZ)))))) .refl),?_⟩;iterate 12 all_goals ((try conv=>whnf);try first|(with_reducible first|refine zY ?_|refine zN ?_|refine zT ?_|refine br (fun _=> ?_) (fun _=> ?_)|refine⟨rfl,?_⟩))
       exact⟨⟨(f',kz 6 [.mk op v tb nm slot kd args,.mk eY yv eZ fc aY fe aZ],j),hj.2,by dsimp only;omega,bz⟩,by dsimp only;omega,rfl,rfl⟩
     |false=>
      cases DD:((l.getD i aH).1.t==[37])with
      |true=>
       obtain⟨f',qe,bz⟩:=go 7 (by rw[hfind];unfold eW;simp only[find?,oY,yK,DD,if_true,if_false,Bool.false_eq_true]) hlt;cases hf:part (i+1)with
       |bad er j=>
        have c:=hp.bad hlt hf;rw[hf]at bz;obtain rfl:cH.bad er j=r:=bz;iterate 40 all_goals ((try conv=>whnf);try first|(with_reducible first|refine zY ?_|refine zN ?_|refine zT ?_|refine br (fun _=> ?_) (fun _=> ?_)|refine⟨rfl,?_⟩)|(refine cp.call rfl ?_)|(refine c.cZ (by rw[e7];rfl) fun h=> ?_))
        exact cI (av _ _)
       |ok y j=>
        have c:=hp.ok hlt hf;have hj:=hmono _ _ _ hlt hf;obtain⟨eY,yv,eZ,fc,aY,fe,aZ⟩:=y;rw[aB]at c;rw[hf]at bz;dsimp only[cH.then]at bz;iterate 40 all_goals ((try conv=>whnf);try first|(with_reducible first|refine zY ?_|refine zN ?_|refine zT ?_|refine br (fun _=> ?_) (fun _=> ?_)|refine⟨rfl,?_⟩)|(refine cp.call rfl ?_)|(refine c.call (by rw[e7];rfl) ?_))
        refine⟨fun j=>Nat.beq j 6,_,_,cU,.cons (.same _) (.cons (eH (bX (c9 (x:= .mk op v tb nm slot kd args) (y:= .mk eY yv eZ fc aY fe aZ) rfl (.lit (aq (.mk op v tb nm slot kd args))) (.lit (aq (.mk eY yv eZ fc aY fe aZ)))))) .refl),?_⟩;iterate 12 all_goals ((try conv=>whnf);try first|(with_reducible first|refine zY ?_|refine zN ?_|refine zT ?_|refine br (fun _=> ?_) (fun _=> ?_)|refine⟨rfl,?_⟩))
        exact⟨⟨(f',kz 7 [.mk op v tb nm slot kd args,.mk eY yv eZ fc aY fe aZ],j),hj.2,by dsimp only;omega,bz⟩,by dsimp only;omega,rfl,rfl⟩
      |false=>
       obtain rfl:=stop (by rw[hfind];unfold eW;simp only[find?,oY,yK,DD,if_true,if_false,Bool.false_eq_true]);iterate 40 all_goals ((try conv=>whnf);try first|(with_reducible first|refine zY ?_|refine zN ?_|refine zT ?_|refine br (fun _=> ?_) (fun _=> ?_)|refine⟨rfl,?_⟩)|(refine cp.call rfl ?_))
       all_goals exact cO (.lit (aq (.mk op v tb nm slot kd args))) rfl
   ·skip
    cases oY:((l.getD i aH).1.t==[42])with
    |true=>
     obtain⟨f',qe,bz⟩:=go 5 (by rw[hfind];unfold eW;simp only[find?,oY,if_true,if_false,Bool.false_eq_true]) hlt;cases hf:part (i+1)with
     |bad er j=>
      have c:=hp.bad hlt hf;rw[hf]at bz;obtain rfl:cH.bad er j=r:=bz;iterate 40 all_goals ((try conv=>whnf);try first|(with_reducible first|refine zY ?_|refine zN ?_|refine zT ?_|refine br (fun _=> ?_) (fun _=> ?_)|refine⟨rfl,?_⟩)|(refine cp.call rfl ?_)|(refine c.cZ (by rw[e7];rfl) fun h=> ?_))
      exact cI (av _ _)
     |ok y j=>
      have c:=hp.ok hlt hf;have hj:=hmono _ _ _ hlt hf;obtain⟨eY,yv,eZ,fc,aY,fe,aZ⟩:=y;rw[aB]at c;rw[hf]at bz;dsimp only[cH.then]at bz;iterate 40 all_goals ((try conv=>whnf);try first|(with_reducible first|refine zY ?_|refine zN ?_|refine zT ?_|refine br (fun _=> ?_) (fun _=> ?_)|refine⟨rfl,?_⟩)|(refine cp.call rfl ?_)|(refine c.call (by rw[e7];rfl) ?_))
      refine⟨fun j=>Nat.beq j 6,_,_,cU,.cons (.same _) (.cons (eH (bX (c9 (x:= .mk op v tb nm slot kd args) (y:= .mk eY yv eZ fc aY fe aZ) rfl (.lit (aq (.mk op v tb nm slot kd args))) (.lit (aq (.mk eY yv eZ fc aY fe aZ)))))) .refl),?_⟩;iterate 12 all_goals ((try conv=>whnf);try first|(with_reducible first|refine zY ?_|refine zN ?_|refine zT ?_|refine br (fun _=> ?_) (fun _=> ?_)|refine⟨rfl,?_⟩))
      exact⟨⟨(f',kz 5 [.mk op v tb nm slot kd args,.mk eY yv eZ fc aY fe aZ],j),hj.2,by dsimp only;omega,bz⟩,by dsimp only;omega,rfl,rfl⟩
    |false=>
     cases yK:((l.getD i aH).1.t==[47])with
     |true=>
      obtain⟨f',qe,bz⟩:=go 6 (by rw[hfind];unfold eW;simp only[find?,oY,yK,if_true,if_false,Bool.false_eq_true]) hlt;cases hf:part (i+1)with
      |bad er j=>
       have c:=hp.bad hlt hf;rw[hf]at bz;obtain rfl:cH.bad er j=r:=bz;iterate 40 all_goals ((try conv=>whnf);try first|(with_reducible first|refine zY ?_|refine zN ?_|refine zT ?_|refine br (fun _=> ?_) (fun _=> ?_)|refine⟨rfl,?_⟩)|(refine cp.call rfl ?_)|(refine c.cZ (by rw[e7];rfl) fun h=> ?_))
       exact cI (av _ _)
      |ok y j=>
       have c:=hp.ok hlt hf;have hj:=hmono _ _ _ hlt hf;obtain⟨eY,yv,eZ,fc,aY,fe,aZ⟩:=y;rw[aB]at c;rw[hf]at bz;dsimp only[cH.then]at bz;iterate 40 all_goals ((try conv=>whnf);try first|(with_reducible first|refine zY ?_|refine zN ?_|refine zT ?_|refine br (fun _=> ?_) (fun _=> ?_)|refine⟨rfl,?_⟩)|(refine cp.call rfl ?_)|(refine c.call (by rw[e7];rfl) ?_))
       refine⟨fun j=>Nat.beq j 6,_,_,cU,.cons (.same _) (.cons (eH (bX (c9 (x:= .mk op v tb nm slot kd args) (y:= .mk eY yv eZ fc aY fe aZ) rfl (.lit (aq (.mk op v tb nm slot kd args))) (.lit (aq (.mk eY yv eZ fc aY fe aZ)))))) .refl),?_⟩;iterate 12 all_goals ((try conv=>whnf);try first|(with_reducible first|refine zY ?_|refine zN ?_|refine zT ?_|refine br (fun _=> ?_) (fun _=> ?_)|refine⟨rfl,?_⟩))
       exact⟨⟨(f',kz 6 [.mk op v tb nm slot kd args,.mk eY yv eZ fc aY fe aZ],j),hj.2,by dsimp only;omega,bz⟩,by dsimp only;omega,rfl,rfl⟩
     |false=>
      cases DD:((l.getD i aH).1.t==[37])with
      |true=>
       obtain⟨f',qe,bz⟩:=go 7 (by rw[hfind];unfold eW;simp only[find?,oY,yK,DD,if_true,if_false,Bool.false_eq_true]) hlt;cases hf:part (i+1)with
       |bad er j=>
        have c:=hp.bad hlt hf;rw[hf]at bz;obtain rfl:cH.bad er j=r:=bz;iterate 40 all_goals ((try conv=>whnf);try first|(with_reducible first|refine zY ?_|refine zN ?_|refine zT ?_|refine br (fun _=> ?_) (fun _=> ?_)|refine⟨rfl,?_⟩)|(refine cp.call rfl ?_)|(refine c.cZ (by rw[e7];rfl) fun h=> ?_))
        exact cI (av _ _)
       |ok y j=>
        have c:=hp.ok hlt hf;have hj:=hmono _ _ _ hlt hf;obtain⟨eY,yv,eZ,fc,aY,fe,aZ⟩:=y;rw[aB]at c;rw[hf]at bz;dsimp only[cH.then]at bz;iterate 40 all_goals ((try conv=>whnf);try first|(with_reducible first|refine zY ?_|refine zN ?_|refine zT ?_|refine br (fun _=> ?_) (fun _=> ?_)|refine⟨rfl,?_⟩)|(refine cp.call rfl ?_)|(refine c.call (by rw[e7];rfl) ?_))
        refine⟨fun j=>Nat.beq j 6,_,_,cU,.cons (.same _) (.cons (eH (bX (c9 (x:= .mk op v tb nm slot kd args) (y:= .mk eY yv eZ fc aY fe aZ) rfl (.lit (aq (.mk op v tb nm slot kd args))) (.lit (aq (.mk eY yv eZ fc aY fe aZ)))))) .refl),?_⟩;iterate 12 all_goals ((try conv=>whnf);try first|(with_reducible first|refine zY ?_|refine zN ?_|refine zT ?_|refine br (fun _=> ?_) (fun _=> ?_)|refine⟨rfl,?_⟩))
        exact⟨⟨(f',kz 7 [.mk op v tb nm slot kd args,.mk eY yv eZ fc aY fe aZ],j),hj.2,by dsimp only;omega,bz⟩,by dsimp only;omega,rfl,rfl⟩
      |false=>
       obtain rfl:=stop (by rw[hfind];unfold eW;simp only[find?,oY,yK,DD,if_true,if_false,Bool.false_eq_true]);iterate 40 all_goals ((try conv=>whnf);try first|(with_reducible first|refine zY ?_|refine zN ?_|refine zT ?_|refine br (fun _=> ?_) (fun _=> ?_)|refine⟨rfl,?_⟩)|(refine cp.call rfl ?_))
       all_goals exact cO (.lit (aq (.mk op v tb nm slot kd args))) rfl
end
end Go.Proofs.YtbjifmbemdhndaaGreatDoor
