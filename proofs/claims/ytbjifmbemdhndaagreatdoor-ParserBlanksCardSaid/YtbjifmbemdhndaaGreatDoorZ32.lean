/- Parts of the proof of PParserBlanks, one behind the other, with short names. -/
import Derived.Test.YtbjifmbemdhndaaGreatDoorZ30
set_option linter.unusedVariables false
set_option linter.unusedSimpArgs false
namespace Go.Proofs.YtbjifmbemdhndaaGreatDoor
open Ab Go.RowKit
set_option maxRecDepth 100000
set_option maxHeartbeats 4000000
attribute [local irreducible] bB
section
variable {l:List TP} {m e:Nat}
theorem sE(r:aF Ex):KC (DM l m r):=match r with
 | .ok x _=>aD x
 | .bad _ _=>ai _ _
@[reducible] def BR:aG:= .vec 0 9 [.agg [.int .u8 0,.int .u8 0,.int .i64 0,.str [],.str [],.str [],.int .i64 0,.int .u8 0,.ak]] ⟨false,some 30⟩
theorem I9(hl:l.length<=65536){part:Nat->aF Ex}(hp:sD l m e 61 part)
  (hmono: ∀i x j,i<=l.length->part i= .ok x j->i<=j/\j<=l.length):sD l m e 22 (iA (aq l) l.length nF part):=by
 intro i hi;unfold iA;cases hf:part i with
 |bad er j=>
  have c:=hp.bad hi hf;refine⟨aO,ah ..,ah ..,ai ..,IC.call mixed rfl ?_⟩;iterate 20 all_goals ((try conv=>whnf);try first|(with_reducible first|refine zY ?_|refine zN ?_|refine zT ?_|refine br (fun _=> ?_) (fun _=> ?_)|refine⟨rfl,?_⟩)|(refine su.call mixed rfl ?_)|(refine c.bO rfl fun h=> ?_))
  exact aW (ai _ _)
 |ok x j=>
  have c:=hp.ok hi hf;have hj:=hmono i x j hi hf;obtain⟨op,v,tb,nm,slot,kd,args⟩:=x;rw[bt]at c;dsimp only[aF.then];generalize hr:dh (aq l) nF part l.length (.mk op v tb nm slot kd args) j=r;refine⟨aO,ah ..,ah ..,sE r,IC.call mixed rfl ?_⟩;iterate 20 all_goals ((try conv=>whnf);try first|(with_reducible first|refine zY ?_|refine zN ?_|refine zT ?_|refine br (fun _=> ?_) (fun _=> ?_)|refine⟨rfl,?_⟩)|(refine su.call mixed rfl ?_)|(refine c.call rfl ?_))
  refine nD (σ:={s:Nat×Ex×Nat // s.2.2<=l.length/\l.length<=s.2.2+s.1/\dh (aq l) nF part s.1 s.2.1 s.2.2=r})
   (fun s=>[(0,.ref 0 0 0 0),(1,.func (.func 61) [.ref 0 0 0 0] []),(2,.dR 2 0),(6,.ref 3 0 0 0),(7,.ref 4 0 0 0)])
   (fun s=>⟨5,[(4,.vec 0 9 [uD s.1.2.1] ⟨false,some 30⟩),(3,BR),(2,.map [(.str [111,114],.int .u8 16,0)] 1),(1,BR),(0,dx l s.1.2.2 m e)]⟩)
   (fun s=>l.length-s.1.2.2) (fun _=>5) (fun _=>Nat.le_refl 5) ?_ ⟨(l.length,.mk op v tb nm slot kd args,j),hj.2,Nat.le_add_left _ _,hr⟩
  clear hr c hf hj hi;rintro⟨⟨f,⟨op,v,tb,nm,slot,kd,args⟩,i⟩,hi,ET,hgo⟩;dsimp only at hi ET hgo ⊢;rw[bt];have cp:=eS (l:=l) (m:=m) (e:=e) i
  have stop:lT nF (aq l i)=none->r= .ok (.mk op v tb nm slot kd args) i:=fun h=>by
   rw[<- hgo];cases f<;>simp[dh,h]
  have go: ∀o,lT nF (aq l i)=some o->i<l.length-> ∃f',l.length<=i+1+f'/\(part (i+1)).then (fun y j=>dh (aq l) nF part f' (qw o [.mk op v tb nm slot kd args,y]) j)=r:=fun o h hlt=>by
   obtain⟨f',rfl⟩: ∃f',f=f'+1:=⟨f-1,by omega⟩;refine⟨f',by omega,?_⟩;rw[<- hgo,dh,h]
  cases hk:((l.getD i aC).1.k==1||(l.getD i aC).1.k==4)with
  |false=>
   have hkk:=hk;simp only[Bool.or_eq_false_iff]at hkk;have n1:((l.getD i aC).1.k !=1)=true:=by unfold bne;rw[hkk.1];rfl
   have n4:((l.getD i aC).1.k !=4)=true:=by unfold bne;rw[hkk.2];rfl
   obtain rfl:=stop (by unfold lT;rw[show (((aq l i).k==1||(aq l i).k==4))=false from hk];rfl);iterate 40 all_goals ((try conv=>whnf);try first|(with_reducible first|refine zY ?_|refine zN ?_|refine zT ?_|refine br (fun _=> ?_) (fun _=> ?_)|refine⟨rfl,?_⟩)|(refine cp.call rfl ?_))
   all_goals exact bT (.lit (aD (.mk op v tb nm slot kd args))) rfl
  |true=>
   have hlt:i<l.length:=by
    rcases Bool.or_eq_true_iff.1 hk with h|h
    ·exact bS h (by decide)
    ·exact bS h (by decide)
   have e7:IntKind.i64.wrap ((i:Int)+1)=((i+1:Nat):Int):=bN (by omega)
   have BS:(l.getD i aC).1.k=1\/((l.getD i aC).1.k !=1)=true/\((l.getD i aC).1.k !=4)=false:=by
    by_cases h:(l.getD i aC).1.k=1
    ·exact .inl h
    ·have h4:(l.getD i aC).1.k=4:=by
      rcases Bool.or_eq_true_iff.1 hk with h'|h'
      ·exact absurd (beq_iff_eq.1 h') h
      ·exact beq_iff_eq.1 h'
     exact .inr ⟨by rw[h4];rfl,by rw[h4];rfl⟩
   have hfind:lT nF (aq l i)=find? nF (aq l i).t:=by unfold lT;rw[show (((aq l i).k==1||(aq l i).k==4))=true from hk];rfl
   rcases BS with h1|⟨n1,n4⟩
   ·have n1:((l.getD i aC).1.k !=1)=false:=by rw[h1];rfl
    cases lV:((l.getD i aC).1.t==[111,114])with
    |true=>
     obtain⟨f',rz,bV⟩:=go 16 (by rw[hfind];unfold nF;simp only[find?,lV,if_true,if_false,Bool.false_eq_true]) hlt;cases hf:part (i+1)with
     |bad er j=>
      have c:=hp.bad hlt hf;rw[hf]at bV;obtain rfl:aF.bad er j=r:=bV;iterate 40 all_goals ((try conv=>whnf);try first|(with_reducible first|refine zY ?_|refine zN ?_|refine zT ?_|refine br (fun _=> ?_) (fun _=> ?_)|refine⟨rfl,?_⟩)|(refine cp.call rfl ?_)|(refine c.bO (by rw[e7];rfl) fun h=> ?_))
      exact aW (ai _ _)
     |ok y j=>
      have c:=hp.ok hlt hf;have hj:=hmono _ _ _ hlt hf;obtain⟨fM,yv,fN,fO,bE,fP,bF⟩:=y;rw[bt]at c;rw[hf]at bV;dsimp only[aF.then]at bV;iterate 40 all_goals ((try conv=>whnf);try first|(with_reducible first|refine zY ?_|refine zN ?_|refine zT ?_|refine br (fun _=> ?_) (fun _=> ?_)|refine⟨rfl,?_⟩)|(refine cp.call rfl ?_)|(refine c.call (by rw[e7];rfl) ?_))
      refine⟨fun j=>Nat.beq j 6,_,_,aQ,.cons (.same _) (.cons (eJ (cS (dW (x:= .mk op v tb nm slot kd args) (y:= .mk fM yv fN fO bE fP bF) rfl (.lit (aD (.mk op v tb nm slot kd args))) (.lit (aD (.mk fM yv fN fO bE fP bF)))))) .refl),?_⟩;iterate 12 all_goals ((try conv=>whnf);try first|(with_reducible first|refine zY ?_|refine zN ?_|refine zT ?_|refine br (fun _=> ?_) (fun _=> ?_)|refine⟨rfl,?_⟩))
      exact⟨⟨(f',qw 16 [.mk op v tb nm slot kd args,.mk fM yv fN fO bE fP bF],j),hj.2,by dsimp only;omega,bV⟩,by dsimp only;omega,rfl,rfl⟩
    |false=>
     obtain rfl:=stop (by rw[hfind];unfold nF;simp only[find?,lV,if_true,if_false,Bool.false_eq_true]);iterate 40 all_goals ((try conv=>whnf);try first|(with_reducible first|refine zY ?_|refine zN ?_|refine zT ?_|refine br (fun _=> ?_) (fun _=> ?_)|refine⟨rfl,?_⟩)|(refine cp.call rfl ?_))
     all_goals exact bT (.lit (aD (.mk op v tb nm slot kd args))) rfl
   ·skip
    cases lV:((l.getD i aC).1.t==[111,114])with
    |true=>
     obtain⟨f',rz,bV⟩:=go 16 (by rw[hfind];unfold nF;simp only[find?,lV,if_true,if_false,Bool.false_eq_true]) hlt;cases hf:part (i+1)with
     |bad er j=>
      have c:=hp.bad hlt hf;rw[hf]at bV;obtain rfl:aF.bad er j=r:=bV;iterate 40 all_goals ((try conv=>whnf);try first|(with_reducible first|refine zY ?_|refine zN ?_|refine zT ?_|refine br (fun _=> ?_) (fun _=> ?_)|refine⟨rfl,?_⟩)|(refine cp.call rfl ?_)|(refine c.bO (by rw[e7];rfl) fun h=> ?_))
      exact aW (ai _ _)
     |ok y j=>
      have c:=hp.ok hlt hf;have hj:=hmono _ _ _ hlt hf;obtain⟨fM,yv,fN,fO,bE,fP,bF⟩:=y;rw[bt]at c;rw[hf]at bV;dsimp only[aF.then]at bV;iterate 40 all_goals ((try conv=>whnf);try first|(with_reducible first|refine zY ?_|refine zN ?_|refine zT ?_|refine br (fun _=> ?_) (fun _=> ?_)|refine⟨rfl,?_⟩)|(refine cp.call rfl ?_)|(refine c.call (by rw[e7];rfl) ?_))
      refine⟨fun j=>Nat.beq j 6,_,_,aQ,.cons (.same _) (.cons (eJ (cS (dW (x:= .mk op v tb nm slot kd args) (y:= .mk fM yv fN fO bE fP bF) rfl (.lit (aD (.mk op v tb nm slot kd args))) (.lit (aD (.mk fM yv fN fO bE fP bF)))))) .refl),?_⟩;iterate 12 all_goals ((try conv=>whnf);try first|(with_reducible first|refine zY ?_|refine zN ?_|refine zT ?_|refine br (fun _=> ?_) (fun _=> ?_)|refine⟨rfl,?_⟩))
      exact⟨⟨(f',qw 16 [.mk op v tb nm slot kd args,.mk fM yv fN fO bE fP bF],j),hj.2,by dsimp only;omega,bV⟩,by dsimp only;omega,rfl,rfl⟩
    |false=>
     obtain rfl:=stop (by rw[hfind];unfold nF;simp only[find?,lV,if_true,if_false,Bool.false_eq_true]);iterate 40 all_goals ((try conv=>whnf);try first|(with_reducible first|refine zY ?_|refine zN ?_|refine zT ?_|refine br (fun _=> ?_) (fun _=> ?_)|refine⟨rfl,?_⟩)|(refine cp.call rfl ?_))
     all_goals exact bT (.lit (aD (.mk op v tb nm slot kd args))) rfl
theorem KO(hl:l.length<=65536){part:Nat->aF Ex}(hp:sD l m e 120 part)
  (hmono: ∀i x j,i<=l.length->part i= .ok x j->i<=j/\j<=l.length):sD l m e 61 (iA (aq l) l.length gV part):=by
 intro i hi;unfold iA;cases hf:part i with
 |bad er j=>
  have c:=hp.bad hi hf;refine⟨aO,ah ..,ah ..,ai ..,II.call mixed rfl ?_⟩;iterate 20 all_goals ((try conv=>whnf);try first|(with_reducible first|refine zY ?_|refine zN ?_|refine zT ?_|refine br (fun _=> ?_) (fun _=> ?_)|refine⟨rfl,?_⟩)|(refine su.call mixed rfl ?_)|(refine c.bO rfl fun h=> ?_))
  exact aW (ai _ _)
 |ok x j=>
  have c:=hp.ok hi hf;have hj:=hmono i x j hi hf;obtain⟨op,v,tb,nm,slot,kd,args⟩:=x;rw[bt]at c;dsimp only[aF.then];generalize hr:dh (aq l) gV part l.length (.mk op v tb nm slot kd args) j=r;refine⟨aO,ah ..,ah ..,sE r,II.call mixed rfl ?_⟩;iterate 20 all_goals ((try conv=>whnf);try first|(with_reducible first|refine zY ?_|refine zN ?_|refine zT ?_|refine br (fun _=> ?_) (fun _=> ?_)|refine⟨rfl,?_⟩)|(refine su.call mixed rfl ?_)|(refine c.call rfl ?_))
  refine nD (σ:={s:Nat×Ex×Nat // s.2.2<=l.length/\l.length<=s.2.2+s.1/\dh (aq l) gV part s.1 s.2.1 s.2.2=r})
   (fun s=>[(0,.ref 0 0 0 0),(1,.func (.func 120) [.ref 0 0 0 0] []),(2,.dR 2 0),(6,.ref 3 0 0 0),(7,.ref 4 0 0 0)])
   (fun s=>⟨5,[(4,.vec 0 9 [uD s.1.2.1] ⟨false,some 30⟩),(3,BR),(2,.map [(.str [97,110,100],.int .u8 15,0)] 1),(1,BR),(0,dx l s.1.2.2 m e)]⟩)
   (fun s=>l.length-s.1.2.2) (fun _=>5) (fun _=>Nat.le_refl 5) ?_ ⟨(l.length,.mk op v tb nm slot kd args,j),hj.2,Nat.le_add_left _ _,hr⟩
  clear hr c hf hj hi;rintro⟨⟨f,⟨op,v,tb,nm,slot,kd,args⟩,i⟩,hi,ET,hgo⟩;dsimp only at hi ET hgo ⊢;rw[bt];have cp:=eS (l:=l) (m:=m) (e:=e) i
  have stop:lT gV (aq l i)=none->r= .ok (.mk op v tb nm slot kd args) i:=fun h=>by
   rw[<- hgo];cases f<;>simp[dh,h]
  have go: ∀o,lT gV (aq l i)=some o->i<l.length-> ∃f',l.length<=i+1+f'/\(part (i+1)).then (fun y j=>dh (aq l) gV part f' (qw o [.mk op v tb nm slot kd args,y]) j)=r:=fun o h hlt=>by
   obtain⟨f',rfl⟩: ∃f',f=f'+1:=⟨f-1,by omega⟩;refine⟨f',by omega,?_⟩;rw[<- hgo,dh,h]
  cases hk:((l.getD i aC).1.k==1||(l.getD i aC).1.k==4)with
  |false=>
   have hkk:=hk;simp only[Bool.or_eq_false_iff]at hkk;have n1:((l.getD i aC).1.k !=1)=true:=by unfold bne;rw[hkk.1];rfl
   have n4:((l.getD i aC).1.k !=4)=true:=by unfold bne;rw[hkk.2];rfl
   obtain rfl:=stop (by unfold lT;rw[show (((aq l i).k==1||(aq l i).k==4))=false from hk];rfl);iterate 40 all_goals ((try conv=>whnf);try first|(with_reducible first|refine zY ?_|refine zN ?_|refine zT ?_|refine br (fun _=> ?_) (fun _=> ?_)|refine⟨rfl,?_⟩)|(refine cp.call rfl ?_))
   all_goals exact bT (.lit (aD (.mk op v tb nm slot kd args))) rfl
  |true=>
   have hlt:i<l.length:=by
    rcases Bool.or_eq_true_iff.1 hk with h|h
    ·exact bS h (by decide)
    ·exact bS h (by decide)
   have e7:IntKind.i64.wrap ((i:Int)+1)=((i+1:Nat):Int):=bN (by omega)
   have BS:(l.getD i aC).1.k=1\/((l.getD i aC).1.k !=1)=true/\((l.getD i aC).1.k !=4)=false:=by
    by_cases h:(l.getD i aC).1.k=1
    ·exact .inl h
    ·have h4:(l.getD i aC).1.k=4:=by
      rcases Bool.or_eq_true_iff.1 hk with h'|h'
      ·exact absurd (beq_iff_eq.1 h') h
      ·exact beq_iff_eq.1 h'
     exact .inr ⟨by rw[h4];rfl,by rw[h4];rfl⟩
   have hfind:lT gV (aq l i)=find? gV (aq l i).t:=by unfold lT;rw[show (((aq l i).k==1||(aq l i).k==4))=true from hk];rfl
   rcases BS with h1|⟨n1,n4⟩
   ·have n1:((l.getD i aC).1.k !=1)=false:=by rw[h1];rfl
    cases lV:((l.getD i aC).1.t==[97,110,100])with
    |true=>
     obtain⟨f',rz,bV⟩:=go 15 (by rw[hfind];unfold gV;simp only[find?,lV,if_true,if_false,Bool.false_eq_true]) hlt;cases hf:part (i+1)with
     |bad er j=>
      have c:=hp.bad hlt hf;rw[hf]at bV;obtain rfl:aF.bad er j=r:=bV;iterate 40 all_goals ((try conv=>whnf);try first|(with_reducible first|refine zY ?_|refine zN ?_|refine zT ?_|refine br (fun _=> ?_) (fun _=> ?_)|refine⟨rfl,?_⟩)|(refine cp.call rfl ?_)|(refine c.bO (by rw[e7];rfl) fun h=> ?_))
      exact aW (ai _ _)
     |ok y j=>
      have c:=hp.ok hlt hf;have hj:=hmono _ _ _ hlt hf;obtain⟨fM,yv,fN,fO,bE,fP,bF⟩:=y;rw[bt]at c;rw[hf]at bV;dsimp only[aF.then]at bV;iterate 40 all_goals ((try conv=>whnf);try first|(with_reducible first|refine zY ?_|refine zN ?_|refine zT ?_|refine br (fun _=> ?_) (fun _=> ?_)|refine⟨rfl,?_⟩)|(refine cp.call rfl ?_)|(refine c.call (by rw[e7];rfl) ?_))
      refine⟨fun j=>Nat.beq j 6,_,_,aQ,.cons (.same _) (.cons (eJ (cS (dW (x:= .mk op v tb nm slot kd args) (y:= .mk fM yv fN fO bE fP bF) rfl (.lit (aD (.mk op v tb nm slot kd args))) (.lit (aD (.mk fM yv fN fO bE fP bF)))))) .refl),?_⟩;iterate 12 all_goals ((try conv=>whnf);try first|(with_reducible first|refine zY ?_|refine zN ?_|refine zT ?_|refine br (fun _=> ?_) (fun _=> ?_)|refine⟨rfl,?_⟩))
      exact⟨⟨(f',qw 15 [.mk op v tb nm slot kd args,.mk fM yv fN fO bE fP bF],j),hj.2,by dsimp only;omega,bV⟩,by dsimp only;omega,rfl,rfl⟩
    |false=>
     obtain rfl:=stop (by rw[hfind];unfold gV;simp only[find?,lV,if_true,if_false,Bool.false_eq_true]);iterate 40 all_goals ((try conv=>whnf);try first|(with_reducible first|refine zY ?_|refine zN ?_|refine zT ?_|refine br (fun _=> ?_) (fun _=> ?_)|refine⟨rfl,?_⟩)|(refine cp.call rfl ?_))
     all_goals exact bT (.lit (aD (.mk op v tb nm slot kd args))) rfl
   ·skip
    cases lV:((l.getD i aC).1.t==[97,110,100])with
    |true=>
     obtain⟨f',rz,bV⟩:=go 15 (by rw[hfind];unfold gV;simp only[find?,lV,if_true,if_false,Bool.false_eq_true]) hlt;cases hf:part (i+1)with
     |bad er j=>
      have c:=hp.bad hlt hf;rw[hf]at bV;obtain rfl:aF.bad er j=r:=bV;iterate 40 all_goals ((try conv=>whnf);try first|(with_reducible first|refine zY ?_|refine zN ?_|refine zT ?_|refine br (fun _=> ?_) (fun _=> ?_)|refine⟨rfl,?_⟩)|(refine cp.call rfl ?_)|(refine c.bO (by rw[e7];rfl) fun h=> ?_))
      exact aW (ai _ _)
     |ok y j=>
      have c:=hp.ok hlt hf;have hj:=hmono _ _ _ hlt hf;obtain⟨fM,yv,fN,fO,bE,fP,bF⟩:=y;rw[bt]at c;rw[hf]at bV;dsimp only[aF.then]at bV;iterate 40 all_goals ((try conv=>whnf);try first|(with_reducible first|refine zY ?_|refine zN ?_|refine zT ?_|refine br (fun _=> ?_) (fun _=> ?_)|refine⟨rfl,?_⟩)|(refine cp.call rfl ?_)|(refine c.call (by rw[e7];rfl) ?_))
      refine⟨fun j=>Nat.beq j 6,_,_,aQ,.cons (.same _) (.cons (eJ (cS (dW (x:= .mk op v tb nm slot kd args) (y:= .mk fM yv fN fO bE fP bF) rfl (.lit (aD (.mk op v tb nm slot kd args))) (.lit (aD (.mk fM yv fN fO bE fP bF)))))) .refl),?_⟩;iterate 12 all_goals ((try conv=>whnf);try first|(with_reducible first|refine zY ?_|refine zN ?_|refine zT ?_|refine br (fun _=> ?_) (fun _=> ?_)|refine⟨rfl,?_⟩))
      exact⟨⟨(f',qw 15 [.mk op v tb nm slot kd args,.mk fM yv fN fO bE fP bF],j),hj.2,by dsimp only;omega,bV⟩,by dsimp only;omega,rfl,rfl⟩
    |false=>
     obtain rfl:=stop (by rw[hfind];unfold gV;simp only[find?,lV,if_true,if_false,Bool.false_eq_true]);iterate 40 all_goals ((try conv=>whnf);try first|(with_reducible first|refine zY ?_|refine zN ?_|refine zT ?_|refine br (fun _=> ?_) (fun _=> ?_)|refine⟨rfl,?_⟩)|(refine cp.call rfl ?_))
     all_goals exact bT (.lit (aD (.mk op v tb nm slot kd args))) rfl
theorem KP(hl:l.length<=65536){part:Nat->aF Ex}(hp:sD l m e 224 part)
  (hmono: ∀i x j,i<=l.length->part i= .ok x j->i<=j/\j<=l.length):sD l m e 203 (iA (aq l) l.length fJ part):=by
 intro i hi;unfold iA;cases hf:part i with
 |bad er j=>
  have c:=hp.bad hi hf;refine⟨aO,ah ..,ah ..,ai ..,DA.call mixed rfl ?_⟩;iterate 20 all_goals ((try conv=>whnf);try first|(with_reducible first|refine zY ?_|refine zN ?_|refine zT ?_|refine br (fun _=> ?_) (fun _=> ?_)|refine⟨rfl,?_⟩)|(refine su.call mixed rfl ?_)|(refine c.bO rfl fun h=> ?_))
  exact aW (ai _ _)
 |ok x j=>
  have c:=hp.ok hi hf;have hj:=hmono i x j hi hf;obtain⟨op,v,tb,nm,slot,kd,args⟩:=x;rw[bt]at c;dsimp only[aF.then];generalize hr:dh (aq l) fJ part l.length (.mk op v tb nm slot kd args) j=r;refine⟨aO,ah ..,ah ..,sE r,DA.call mixed rfl ?_⟩;iterate 20 all_goals ((try conv=>whnf);try first|(with_reducible first|refine zY ?_|refine zN ?_|refine zT ?_|refine br (fun _=> ?_) (fun _=> ?_)|refine⟨rfl,?_⟩)|(refine su.call mixed rfl ?_)|(refine c.call rfl ?_))
  refine nD (σ:={s:Nat×Ex×Nat // s.2.2<=l.length/\l.length<=s.2.2+s.1/\dh (aq l) fJ part s.1 s.2.1 s.2.2=r})
   (fun s=>[(0,.ref 0 0 0 0),(1,.func (.func 224) [.ref 0 0 0 0] []),(2,.dR 2 0),(6,.ref 3 0 0 0),(7,.ref 4 0 0 0)])
   (fun s=>⟨5,[(4,.vec 0 9 [uD s.1.2.1] ⟨false,some 30⟩),(3,BR),(2,.map [(.str [43],.int .u8 3,0),(.str [45],.int .u8 4,1),(.str [124,124],.int .u8 8,2)] 3),(1,BR),(0,dx l s.1.2.2 m e)]⟩)
   (fun s=>l.length-s.1.2.2) (fun _=>5) (fun _=>Nat.le_refl 5) ?_ ⟨(l.length,.mk op v tb nm slot kd args,j),hj.2,Nat.le_add_left _ _,hr⟩
  clear hr c hf hj hi;rintro⟨⟨f,⟨op,v,tb,nm,slot,kd,args⟩,i⟩,hi,ET,hgo⟩;dsimp only at hi ET hgo ⊢;rw[bt];have cp:=eS (l:=l) (m:=m) (e:=e) i
  have stop:lT fJ (aq l i)=none->r= .ok (.mk op v tb nm slot kd args) i:=fun h=>by
   rw[<- hgo];cases f<;>simp[dh,h]
  have go: ∀o,lT fJ (aq l i)=some o->i<l.length-> ∃f',l.length<=i+1+f'/\(part (i+1)).then (fun y j=>dh (aq l) fJ part f' (qw o [.mk op v tb nm slot kd args,y]) j)=r:=fun o h hlt=>by
   obtain⟨f',rfl⟩: ∃f',f=f'+1:=⟨f-1,by omega⟩;refine⟨f',by omega,?_⟩;rw[<- hgo,dh,h]
  cases hk:((l.getD i aC).1.k==1||(l.getD i aC).1.k==4)with
  |false=>
   have hkk:=hk;simp only[Bool.or_eq_false_iff]at hkk;have n1:((l.getD i aC).1.k !=1)=true:=by unfold bne;rw[hkk.1];rfl
   have n4:((l.getD i aC).1.k !=4)=true:=by unfold bne;rw[hkk.2];rfl
   obtain rfl:=stop (by unfold lT;rw[show (((aq l i).k==1||(aq l i).k==4))=false from hk];rfl);iterate 40 all_goals ((try conv=>whnf);try first|(with_reducible first|refine zY ?_|refine zN ?_|refine zT ?_|refine br (fun _=> ?_) (fun _=> ?_)|refine⟨rfl,?_⟩)|(refine cp.call rfl ?_))
   all_goals exact bT (.lit (aD (.mk op v tb nm slot kd args))) rfl
  |true=>
   have hlt:i<l.length:=by
    rcases Bool.or_eq_true_iff.1 hk with h|h
    ·exact bS h (by decide)
    ·exact bS h (by decide)
   have e7:IntKind.i64.wrap ((i:Int)+1)=((i+1:Nat):Int):=bN (by omega)
   have BS:(l.getD i aC).1.k=1\/((l.getD i aC).1.k !=1)=true/\((l.getD i aC).1.k !=4)=false:=by
    by_cases h:(l.getD i aC).1.k=1
    ·exact .inl h
    ·have h4:(l.getD i aC).1.k=4:=by
      rcases Bool.or_eq_true_iff.1 hk with h'|h'
      ·exact absurd (beq_iff_eq.1 h') h
      ·exact beq_iff_eq.1 h'
     exact .inr ⟨by rw[h4];rfl,by rw[h4];rfl⟩
   have hfind:lT fJ (aq l i)=find? fJ (aq l i).t:=by unfold lT;rw[show (((aq l i).k==1||(aq l i).k==4))=true from hk];rfl
   rcases BS with h1|⟨n1,n4⟩
   ·have n1:((l.getD i aC).1.k !=1)=false:=by rw[h1];rfl
    cases lV:((l.getD i aC).1.t==[43])with
    |true=>
     obtain⟨f',rz,bV⟩:=go 3 (by rw[hfind];unfold fJ;simp only[find?,lV,if_true,if_false,Bool.false_eq_true]) hlt;cases hf:part (i+1)with
     |bad er j=>
      have c:=hp.bad hlt hf;rw[hf]at bV;obtain rfl:aF.bad er j=r:=bV;iterate 40 all_goals ((try conv=>whnf);try first|(with_reducible first|refine zY ?_|refine zN ?_|refine zT ?_|refine br (fun _=> ?_) (fun _=> ?_)|refine⟨rfl,?_⟩)|(refine cp.call rfl ?_)|(refine c.bO (by rw[e7];rfl) fun h=> ?_))
      exact aW (ai _ _)
     |ok y j=>
      have c:=hp.ok hlt hf;have hj:=hmono _ _ _ hlt hf;obtain⟨fM,yv,fN,fO,bE,fP,bF⟩:=y;rw[bt]at c;rw[hf]at bV;dsimp only[aF.then]at bV;iterate 40 all_goals ((try conv=>whnf);try first|(with_reducible first|refine zY ?_|refine zN ?_|refine zT ?_|refine br (fun _=> ?_) (fun _=> ?_)|refine⟨rfl,?_⟩)|(refine cp.call rfl ?_)|(refine c.call (by rw[e7];rfl) ?_))
      refine⟨fun j=>Nat.beq j 6,_,_,aQ,.cons (.same _) (.cons (eJ (cS (dW (x:= .mk op v tb nm slot kd args) (y:= .mk fM yv fN fO bE fP bF) rfl (.lit (aD (.mk op v tb nm slot kd args))) (.lit (aD (.mk fM yv fN fO bE fP bF)))))) .refl),?_⟩;iterate 12 all_goals ((try conv=>whnf);try first|(with_reducible first|refine zY ?_|refine zN ?_|refine zT ?_|refine br (fun _=> ?_) (fun _=> ?_)|refine⟨rfl,?_⟩))
      exact⟨⟨(f',qw 3 [.mk op v tb nm slot kd args,.mk fM yv fN fO bE fP bF],j),hj.2,by dsimp only;omega,bV⟩,by dsimp only;omega,rfl,rfl⟩
    |false=>
     cases rH:((l.getD i aC).1.t==[45])with
     |true=>
      obtain⟨f',rz,bV⟩:=go 4 (by rw[hfind];unfold fJ;simp only[find?,lV,rH,if_true,if_false,Bool.false_eq_true]) hlt;cases hf:part (i+1)with
      |bad er j=>
       have c:=hp.bad hlt hf;rw[hf]at bV;obtain rfl:aF.bad er j=r:=bV;iterate 40 all_goals ((try conv=>whnf);try first|(with_reducible first|refine zY ?_|refine zN ?_|refine zT ?_|refine br (fun _=> ?_) (fun _=> ?_)|refine⟨rfl,?_⟩)|(refine cp.call rfl ?_)|(refine c.bO (by rw[e7];rfl) fun h=> ?_))
       exact aW (ai _ _)
      |ok y j=>
       have c:=hp.ok hlt hf;have hj:=hmono _ _ _ hlt hf;obtain⟨fM,yv,fN,fO,bE,fP,bF⟩:=y;rw[bt]at c;rw[hf]at bV;dsimp only[aF.then]at bV;iterate 40 all_goals ((try conv=>whnf);try first|(with_reducible first|refine zY ?_|refine zN ?_|refine zT ?_|refine br (fun _=> ?_) (fun _=> ?_)|refine⟨rfl,?_⟩)|(refine cp.call rfl ?_)|(refine c.call (by rw[e7];rfl) ?_))
       refine⟨fun j=>Nat.beq j 6,_,_,aQ,.cons (.same _) (.cons (eJ (cS (dW (x:= .mk op v tb nm slot kd args) (y:= .mk fM yv fN fO bE fP bF) rfl (.lit (aD (.mk op v tb nm slot kd args))) (.lit (aD (.mk fM yv fN fO bE fP bF)))))) .refl),?_⟩;iterate 12 all_goals ((try conv=>whnf);try first|(with_reducible first|refine zY ?_|refine zN ?_|refine zT ?_|refine br (fun _=> ?_) (fun _=> ?_)|refine⟨rfl,?_⟩))
       exact⟨⟨(f',qw 4 [.mk op v tb nm slot kd args,.mk fM yv fN fO bE fP bF],j),hj.2,by dsimp only;omega,bV⟩,by dsimp only;omega,rfl,rfl⟩
     |false=>
      cases vO:((l.getD i aC).1.t==[124,124])with
      |true=>
       obtain⟨f',rz,bV⟩:=go 8 (by rw[hfind];unfold fJ;simp only[find?,lV,rH,vO,if_true,if_false,Bool.false_eq_true]) hlt;cases hf:part (i+1)with
       |bad er j=>
        have c:=hp.bad hlt hf;rw[hf]at bV;obtain rfl:aF.bad er j=r:=bV;iterate 40 all_goals ((try conv=>whnf);try first|(with_reducible first|refine zY ?_|refine zN ?_|refine zT ?_|refine br (fun _=> ?_) (fun _=> ?_)|refine⟨rfl,?_⟩)|(refine cp.call rfl ?_)|(refine c.bO (by rw[e7];rfl) fun h=> ?_))
        exact aW (ai _ _)
       |ok y j=>
        have c:=hp.ok hlt hf;have hj:=hmono _ _ _ hlt hf;obtain⟨fM,yv,fN,fO,bE,fP,bF⟩:=y;rw[bt]at c;rw[hf]at bV;dsimp only[aF.then]at bV;iterate 40 all_goals ((try conv=>whnf);try first|(with_reducible first|refine zY ?_|refine zN ?_|refine zT ?_|refine br (fun _=> ?_) (fun _=> ?_)|refine⟨rfl,?_⟩)|(refine cp.call rfl ?_)|(refine c.call (by rw[e7];rfl) ?_))
        refine⟨fun j=>Nat.beq j 6,_,_,aQ,.cons (.same _) (.cons (eJ (cS (dW (x:= .mk op v tb nm slot kd args) (y:= .mk fM yv fN fO bE fP bF) rfl (.lit (aD (.mk op v tb nm slot kd args))) (.lit (aD (.mk fM yv fN fO bE fP bF)))))) .refl),?_⟩;iterate 12 all_goals ((try conv=>whnf);try first|(with_reducible first|refine zY ?_|refine zN ?_|refine zT ?_|refine br (fun _=> ?_) (fun _=> ?_)|refine⟨rfl,?_⟩))
        exact⟨⟨(f',qw 8 [.mk op v tb nm slot kd args,.mk fM yv fN fO bE fP bF],j),hj.2,by dsimp only;omega,bV⟩,by dsimp only;omega,rfl,rfl⟩
      |false=>
       obtain rfl:=stop (by rw[hfind];unfold fJ;simp only[find?,lV,rH,vO,if_true,if_false,Bool.false_eq_true]);iterate 40 all_goals ((try conv=>whnf);try first|(with_reducible first|refine zY ?_|refine zN ?_|refine zT ?_|refine br (fun _=> ?_) (fun _=> ?_)|refine⟨rfl,?_⟩)|(refine cp.call rfl ?_))
       all_goals exact bT (.lit (aD (.mk op v tb nm slot kd args))) rfl
   ·skip
    cases lV:((l.getD i aC).1.t==[43])with
    |true=>
     obtain⟨f',rz,bV⟩:=go 3 (by rw[hfind];unfold fJ;simp only[find?,lV,if_true,if_false,Bool.false_eq_true]) hlt;cases hf:part (i+1)with
     |bad er j=>
      have c:=hp.bad hlt hf;rw[hf]at bV;obtain rfl:aF.bad er j=r:=bV;iterate 40 all_goals ((try conv=>whnf);try first|(with_reducible first|refine zY ?_|refine zN ?_|refine zT ?_|refine br (fun _=> ?_) (fun _=> ?_)|refine⟨rfl,?_⟩)|(refine cp.call rfl ?_)|(refine c.bO (by rw[e7];rfl) fun h=> ?_))
      exact aW (ai _ _)
     |ok y j=>
      have c:=hp.ok hlt hf;have hj:=hmono _ _ _ hlt hf;obtain⟨fM,yv,fN,fO,bE,fP,bF⟩:=y;rw[bt]at c;rw[hf]at bV;dsimp only[aF.then]at bV;iterate 40 all_goals ((try conv=>whnf);try first|(with_reducible first|refine zY ?_|refine zN ?_|refine zT ?_|refine br (fun _=> ?_) (fun _=> ?_)|refine⟨rfl,?_⟩)|(refine cp.call rfl ?_)|(refine c.call (by rw[e7];rfl) ?_))
      refine⟨fun j=>Nat.beq j 6,_,_,aQ,.cons (.same _) (.cons (eJ (cS (dW (x:= .mk op v tb nm slot kd args) (y:= .mk fM yv fN fO bE fP bF) rfl (.lit (aD (.mk op v tb nm slot kd args))) (.lit (aD (.mk fM yv fN fO bE fP bF)))))) .refl),?_⟩;iterate 12 all_goals ((try conv=>whnf);try first|(with_reducible first|refine zY ?_|refine zN ?_|refine zT ?_|refine br (fun _=> ?_) (fun _=> ?_)|refine⟨rfl,?_⟩))
      exact⟨⟨(f',qw 3 [.mk op v tb nm slot kd args,.mk fM yv fN fO bE fP bF],j),hj.2,by dsimp only;omega,bV⟩,by dsimp only;omega,rfl,rfl⟩
    |false=>
     cases rH:((l.getD i aC).1.t==[45])with
     |true=>
      obtain⟨f',rz,bV⟩:=go 4 (by rw[hfind];unfold fJ;simp only[find?,lV,rH,if_true,if_false,Bool.false_eq_true]) hlt;cases hf:part (i+1)with
      |bad er j=>
       have c:=hp.bad hlt hf;rw[hf]at bV;obtain rfl:aF.bad er j=r:=bV;iterate 40 all_goals ((try conv=>whnf);try first|(with_reducible first|refine zY ?_|refine zN ?_|refine zT ?_|refine br (fun _=> ?_) (fun _=> ?_)|refine⟨rfl,?_⟩)|(refine cp.call rfl ?_)|(refine c.bO (by rw[e7];rfl) fun h=> ?_))
       exact aW (ai _ _)
      |ok y j=>
       have c:=hp.ok hlt hf;have hj:=hmono _ _ _ hlt hf;obtain⟨fM,yv,fN,fO,bE,fP,bF⟩:=y;rw[bt]at c;rw[hf]at bV;dsimp only[aF.then]at bV;iterate 40 all_goals ((try conv=>whnf);try first|(with_reducible first|refine zY ?_|refine zN ?_|refine zT ?_|refine br (fun _=> ?_) (fun _=> ?_)|refine⟨rfl,?_⟩)|(refine cp.call rfl ?_)|(refine c.call (by rw[e7];rfl) ?_))
       refine⟨fun j=>Nat.beq j 6,_,_,aQ,.cons (.same _) (.cons (eJ (cS (dW (x:= .mk op v tb nm slot kd args) (y:= .mk fM yv fN fO bE fP bF) rfl (.lit (aD (.mk op v tb nm slot kd args))) (.lit (aD (.mk fM yv fN fO bE fP bF)))))) .refl),?_⟩;iterate 12 all_goals ((try conv=>whnf);try first|(with_reducible first|refine zY ?_|refine zN ?_|refine zT ?_|refine br (fun _=> ?_) (fun _=> ?_)|refine⟨rfl,?_⟩))
       exact⟨⟨(f',qw 4 [.mk op v tb nm slot kd args,.mk fM yv fN fO bE fP bF],j),hj.2,by dsimp only;omega,bV⟩,by dsimp only;omega,rfl,rfl⟩
     |false=>
      cases vO:((l.getD i aC).1.t==[124,124])with
      |true=>
       obtain⟨f',rz,bV⟩:=go 8 (by rw[hfind];unfold fJ;simp only[find?,lV,rH,vO,if_true,if_false,Bool.false_eq_true]) hlt;cases hf:part (i+1)with
       |bad er j=>
        have c:=hp.bad hlt hf;rw[hf]at bV;obtain rfl:aF.bad er j=r:=bV;iterate 40 all_goals ((try conv=>whnf);try first|(with_reducible first|refine zY ?_|refine zN ?_|refine zT ?_|refine br (fun _=> ?_) (fun _=> ?_)|refine⟨rfl,?_⟩)|(refine cp.call rfl ?_)|(refine c.bO (by rw[e7];rfl) fun h=> ?_))
        exact aW (ai _ _)
       |ok y j=>
        have c:=hp.ok hlt hf;have hj:=hmono _ _ _ hlt hf;obtain⟨fM,yv,fN,fO,bE,fP,bF⟩:=y;rw[bt]at c;rw[hf]at bV;dsimp only[aF.then]at bV;iterate 40 all_goals ((try conv=>whnf);try first|(with_reducible first|refine zY ?_|refine zN ?_|refine zT ?_|refine br (fun _=> ?_) (fun _=> ?_)|refine⟨rfl,?_⟩)|(refine cp.call rfl ?_)|(refine c.call (by rw[e7];rfl) ?_))
        refine⟨fun j=>Nat.beq j 6,_,_,aQ,.cons (.same _) (.cons (eJ (cS (dW (x:= .mk op v tb nm slot kd args) (y:= .mk fM yv fN fO bE fP bF) rfl (.lit (aD (.mk op v tb nm slot kd args))) (.lit (aD (.mk fM yv fN fO bE fP bF)))))) .refl),?_⟩;iterate 12 all_goals ((try conv=>whnf);try first|(with_reducible first|refine zY ?_|refine zN ?_|refine zT ?_|refine br (fun _=> ?_) (fun _=> ?_)|refine⟨rfl,?_⟩))
        exact⟨⟨(f',qw 8 [.mk op v tb nm slot kd args,.mk fM yv fN fO bE fP bF],j),hj.2,by dsimp only;omega,bV⟩,by dsimp only;omega,rfl,rfl⟩
      |false=>
       obtain rfl:=stop (by rw[hfind];unfold fJ;simp only[find?,lV,rH,vO,if_true,if_false,Bool.false_eq_true]);iterate 40 all_goals ((try conv=>whnf);try first|(with_reducible first|refine zY ?_|refine zN ?_|refine zT ?_|refine br (fun _=> ?_) (fun _=> ?_)|refine⟨rfl,?_⟩)|(refine cp.call rfl ?_))
       all_goals exact bT (.lit (aD (.mk op v tb nm slot kd args))) rfl
theorem BU(hl:l.length<=65536){part:Nat->aF Ex}(hp:sD l m e 240 part)
  (hmono: ∀i x j,i<=l.length->part i= .ok x j->i<=j/\j<=l.length):sD l m e 224 (iA (aq l) l.length fK part):=by
 intro i hi;unfold iA;cases hf:part i with
 |bad er j=>
  have c:=hp.bad hi hf;refine⟨aO,ah ..,ah ..,ai ..,DB.call mixed rfl ?_⟩;iterate 20 all_goals ((try conv=>whnf);try first|(with_reducible first|refine zY ?_|refine zN ?_|refine zT ?_|refine br (fun _=> ?_) (fun _=> ?_)|refine⟨rfl,?_⟩)|(refine su.call mixed rfl ?_)|(refine c.bO rfl fun h=> ?_))
  exact aW (ai _ _)
 |ok x j=>
  have c:=hp.ok hi hf;have hj:=hmono i x j hi hf;obtain⟨op,v,tb,nm,slot,kd,args⟩:=x;rw[bt]at c;dsimp only[aF.then];generalize hr:dh (aq l) fK part l.length (.mk op v tb nm slot kd args) j=r;refine⟨aO,ah ..,ah ..,sE r,DB.call mixed rfl ?_⟩;iterate 20 all_goals ((try conv=>whnf);try first|(with_reducible first|refine zY ?_|refine zN ?_|refine zT ?_|refine br (fun _=> ?_) (fun _=> ?_)|refine⟨rfl,?_⟩)|(refine su.call mixed rfl ?_)|(refine c.call rfl ?_))
  refine nD (σ:={s:Nat×Ex×Nat // s.2.2<=l.length/\l.length<=s.2.2+s.1/\dh (aq l) fK part s.1 s.2.1 s.2.2=r})
   (fun s=>[(0,.ref 0 0 0 0),(1,.func (.func 240) [.ref 0 0 0 0] []),(2,.dR 2 0),(6,.ref 3 0 0 0),(7,.ref 4 0 0 0)])
   (fun s=>⟨5,[(4,.vec 0 9 [uD s.1.2.1] ⟨false,some 30⟩),(3,BR),(2,.map [(.str [42],.int .u8 5,0),(.str [47],.int .u8 6,1),(.str [37],.int .u8 7,2)] 3),(1,BR),(0,dx l s.1.2.2 m e)]⟩)
   (fun s=>l.length-s.1.2.2) (fun _=>5) (fun _=>Nat.le_refl 5) ?_ ⟨(l.length,.mk op v tb nm slot kd args,j),hj.2,Nat.le_add_left _ _,hr⟩
  clear hr c hf hj hi;rintro⟨⟨f,⟨op,v,tb,nm,slot,kd,args⟩,i⟩,hi,ET,hgo⟩;dsimp only at hi ET hgo ⊢;rw[bt];have cp:=eS (l:=l) (m:=m) (e:=e) i
  have stop:lT fK (aq l i)=none->r= .ok (.mk op v tb nm slot kd args) i:=fun h=>by
   rw[<- hgo];cases f<;>simp[dh,h]
  have go: ∀o,lT fK (aq l i)=some o->i<l.length-> ∃f',l.length<=i+1+f'/\(part (i+1)).then (fun y j=>dh (aq l) fK part f' (qw o [.mk op v tb nm slot kd args,y]) j)=r:=fun o h hlt=>by
   obtain⟨f',rfl⟩: ∃f',f=f'+1:=⟨f-1,by omega⟩;refine⟨f',by omega,?_⟩;rw[<- hgo,dh,h]
  cases hk:((l.getD i aC).1.k==1||(l.getD i aC).1.k==4)with
  |false=>
   have hkk:=hk;simp only[Bool.or_eq_false_iff]at hkk;have n1:((l.getD i aC).1.k !=1)=true:=by unfold bne;rw[hkk.1];rfl
   have n4:((l.getD i aC).1.k !=4)=true:=by unfold bne;rw[hkk.2];rfl
   obtain rfl:=stop (by unfold lT;rw[show (((aq l i).k==1||(aq l i).k==4))=false from hk];rfl);iterate 40 all_goals ((try conv=>whnf);try first|(with_reducible first|refine zY ?_|refine zN ?_|refine zT ?_|refine br (fun _=> ?_) (fun _=> ?_)|refine⟨rfl,?_⟩)|(refine cp.call rfl ?_))
   all_goals exact bT (.lit (aD (.mk op v tb nm slot kd args))) rfl
  |true=>
   have hlt:i<l.length:=by
    rcases Bool.or_eq_true_iff.1 hk with h|h
    ·exact bS h (by decide)
    ·exact bS h (by decide)
   have e7:IntKind.i64.wrap ((i:Int)+1)=((i+1:Nat):Int):=bN (by omega)
   have BS:(l.getD i aC).1.k=1\/((l.getD i aC).1.k !=1)=true/\((l.getD i aC).1.k !=4)=false:=by
    by_cases h:(l.getD i aC).1.k=1
    ·exact .inl h
    ·have h4:(l.getD i aC).1.k=4:=by
      rcases Bool.or_eq_true_iff.1 hk with h'|h'
      ·exact absurd (beq_iff_eq.1 h') h
      ·exact beq_iff_eq.1 h'
     exact .inr ⟨by rw[h4];rfl,by rw[h4];rfl⟩
   have hfind:lT fK (aq l i)=find? fK (aq l i).t:=by unfold lT;rw[show (((aq l i).k==1||(aq l i).k==4))=true from hk];rfl
   rcases BS with h1|⟨n1,n4⟩
   ·have n1:((l.getD i aC).1.k !=1)=false:=by rw[h1];rfl
    cases lV:((l.getD i aC).1.t==[42])with
    |true=>
     obtain⟨f',rz,bV⟩:=go 5 (by rw[hfind];unfold fK;simp only[find?,lV,if_true,if_false,Bool.false_eq_true]) hlt;cases hf:part (i+1)with
     |bad er j=>
      have c:=hp.bad hlt hf;rw[hf]at bV;obtain rfl:aF.bad er j=r:=bV;iterate 40 all_goals ((try conv=>whnf);try first|(with_reducible first|refine zY ?_|refine zN ?_|refine zT ?_|refine br (fun _=> ?_) (fun _=> ?_)|refine⟨rfl,?_⟩)|(refine cp.call rfl ?_)|(refine c.bO (by rw[e7];rfl) fun h=> ?_))
      exact aW (ai _ _)
     |ok y j=>
      have c:=hp.ok hlt hf;have hj:=hmono _ _ _ hlt hf;obtain⟨fM,yv,fN,fO,bE,fP,bF⟩:=y;rw[bt]at c;rw[hf]at bV;dsimp only[aF.then]at bV;iterate 40 all_goals ((try conv=>whnf);try first|(with_reducible first|refine zY ?_|refine zN ?_|refine zT ?_|refine br (fun _=> ?_) (fun _=> ?_)|refine⟨rfl,?_⟩)|(refine cp.call rfl ?_)|(refine c.call (by rw[e7];rfl) ?_))
      refine⟨fun j=>Nat.beq j 6,_,_,aQ,.cons (.same _) (.cons (eJ (cS (dW (x:= .mk op v tb nm slot kd args) (y:= .mk fM yv fN fO bE fP bF) rfl (.lit (aD (.mk op v tb nm slot kd args))) (.lit (aD (.mk fM yv fN fO bE fP bF)))))) .refl),?_⟩;iterate 12 all_goals ((try conv=>whnf);try first|(with_reducible first|refine zY ?_|refine zN ?_|refine zT ?_|refine br (fun _=> ?_) (fun _=> ?_)|refine⟨rfl,?_⟩))
      exact⟨⟨(f',qw 5 [.mk op v tb nm slot kd args,.mk fM yv fN fO bE fP bF],j),hj.2,by dsimp only;omega,bV⟩,by dsimp only;omega,rfl,rfl⟩
    |false=>
     cases rH:((l.getD i aC).1.t==[47])with
     |true=>
      obtain⟨f',rz,bV⟩:=go 6 (by rw[hfind];unfold fK;simp only[find?,lV,rH,if_true,if_false,Bool.false_eq_true]) hlt;cases hf:part (i+1)with
      |bad er j=>
       have c:=hp.bad hlt hf;rw[hf]at bV;obtain rfl:aF.bad er j=r:=bV;iterate 40 all_goals ((try conv=>whnf);try first|(with_reducible first|refine zY ?_|refine zN ?_|refine zT ?_|refine br (fun _=> ?_) (fun _=> ?_)|refine⟨rfl,?_⟩)|(refine cp.call rfl ?_)|(refine c.bO (by rw[e7];rfl) fun h=> ?_))
       exact aW (ai _ _)
      |ok y j=>
       have c:=hp.ok hlt hf;have hj:=hmono _ _ _ hlt hf;obtain⟨fM,yv,fN,fO,bE,fP,bF⟩:=y;rw[bt]at c;rw[hf]at bV;dsimp only[aF.then]at bV;iterate 40 all_goals ((try conv=>whnf);try first|(with_reducible first|refine zY ?_|refine zN ?_|refine zT ?_|refine br (fun _=> ?_) (fun _=> ?_)|refine⟨rfl,?_⟩)|(refine cp.call rfl ?_)|(refine c.call (by rw[e7];rfl) ?_))
       refine⟨fun j=>Nat.beq j 6,_,_,aQ,.cons (.same _) (.cons (eJ (cS (dW (x:= .mk op v tb nm slot kd args) (y:= .mk fM yv fN fO bE fP bF) rfl (.lit (aD (.mk op v tb nm slot kd args))) (.lit (aD (.mk fM yv fN fO bE fP bF)))))) .refl),?_⟩;iterate 12 all_goals ((try conv=>whnf);try first|(with_reducible first|refine zY ?_|refine zN ?_|refine zT ?_|refine br (fun _=> ?_) (fun _=> ?_)|refine⟨rfl,?_⟩))
       exact⟨⟨(f',qw 6 [.mk op v tb nm slot kd args,.mk fM yv fN fO bE fP bF],j),hj.2,by dsimp only;omega,bV⟩,by dsimp only;omega,rfl,rfl⟩
     |false=>
      cases vO:((l.getD i aC).1.t==[37])with
      |true=>
       obtain⟨f',rz,bV⟩:=go 7 (by rw[hfind];unfold fK;simp only[find?,lV,rH,vO,if_true,if_false,Bool.false_eq_true]) hlt;cases hf:part (i+1)with
       |bad er j=>
        have c:=hp.bad hlt hf;rw[hf]at bV;obtain rfl:aF.bad er j=r:=bV;iterate 40 all_goals ((try conv=>whnf);try first|(with_reducible first|refine zY ?_|refine zN ?_|refine zT ?_|refine br (fun _=> ?_) (fun _=> ?_)|refine⟨rfl,?_⟩)|(refine cp.call rfl ?_)|(refine c.bO (by rw[e7];rfl) fun h=> ?_))
        exact aW (ai _ _)
       |ok y j=>
        have c:=hp.ok hlt hf;have hj:=hmono _ _ _ hlt hf;obtain⟨fM,yv,fN,fO,bE,fP,bF⟩:=y;rw[bt]at c;rw[hf]at bV;dsimp only[aF.then]at bV;iterate 40 all_goals ((try conv=>whnf);try first|(with_reducible first|refine zY ?_|refine zN ?_|refine zT ?_|refine br (fun _=> ?_) (fun _=> ?_)|refine⟨rfl,?_⟩)|(refine cp.call rfl ?_)|(refine c.call (by rw[e7];rfl) ?_))
        refine⟨fun j=>Nat.beq j 6,_,_,aQ,.cons (.same _) (.cons (eJ (cS (dW (x:= .mk op v tb nm slot kd args) (y:= .mk fM yv fN fO bE fP bF) rfl (.lit (aD (.mk op v tb nm slot kd args))) (.lit (aD (.mk fM yv fN fO bE fP bF)))))) .refl),?_⟩;iterate 12 all_goals ((try conv=>whnf);try first|(with_reducible first|refine zY ?_|refine zN ?_|refine zT ?_|refine br (fun _=> ?_) (fun _=> ?_)|refine⟨rfl,?_⟩))
        exact⟨⟨(f',qw 7 [.mk op v tb nm slot kd args,.mk fM yv fN fO bE fP bF],j),hj.2,by dsimp only;omega,bV⟩,by dsimp only;omega,rfl,rfl⟩
      |false=>
       obtain rfl:=stop (by rw[hfind];unfold fK;simp only[find?,lV,rH,vO,if_true,if_false,Bool.false_eq_true]);iterate 40 all_goals ((try conv=>whnf);try first|(with_reducible first|refine zY ?_|refine zN ?_|refine zT ?_|refine br (fun _=> ?_) (fun _=> ?_)|refine⟨rfl,?_⟩)|(refine cp.call rfl ?_))
       all_goals exact bT (.lit (aD (.mk op v tb nm slot kd args))) rfl
   ·skip
    cases lV:((l.getD i aC).1.t==[42])with
    |true=>
     obtain⟨f',rz,bV⟩:=go 5 (by rw[hfind];unfold fK;simp only[find?,lV,if_true,if_false,Bool.false_eq_true]) hlt;cases hf:part (i+1)with
     |bad er j=>
      have c:=hp.bad hlt hf;rw[hf]at bV;obtain rfl:aF.bad er j=r:=bV;iterate 40 all_goals ((try conv=>whnf);try first|(with_reducible first|refine zY ?_|refine zN ?_|refine zT ?_|refine br (fun _=> ?_) (fun _=> ?_)|refine⟨rfl,?_⟩)|(refine cp.call rfl ?_)|(refine c.bO (by rw[e7];rfl) fun h=> ?_))
      exact aW (ai _ _)
     |ok y j=>
      have c:=hp.ok hlt hf;have hj:=hmono _ _ _ hlt hf;obtain⟨fM,yv,fN,fO,bE,fP,bF⟩:=y;rw[bt]at c;rw[hf]at bV;dsimp only[aF.then]at bV;iterate 40 all_goals ((try conv=>whnf);try first|(with_reducible first|refine zY ?_|refine zN ?_|refine zT ?_|refine br (fun _=> ?_) (fun _=> ?_)|refine⟨rfl,?_⟩)|(refine cp.call rfl ?_)|(refine c.call (by rw[e7];rfl) ?_))
      refine⟨fun j=>Nat.beq j 6,_,_,aQ,.cons (.same _) (.cons (eJ (cS (dW (x:= .mk op v tb nm slot kd args) (y:= .mk fM yv fN fO bE fP bF) rfl (.lit (aD (.mk op v tb nm slot kd args))) (.lit (aD (.mk fM yv fN fO bE fP bF)))))) .refl),?_⟩;iterate 12 all_goals ((try conv=>whnf);try first|(with_reducible first|refine zY ?_|refine zN ?_|refine zT ?_|refine br (fun _=> ?_) (fun _=> ?_)|refine⟨rfl,?_⟩))
      exact⟨⟨(f',qw 5 [.mk op v tb nm slot kd args,.mk fM yv fN fO bE fP bF],j),hj.2,by dsimp only;omega,bV⟩,by dsimp only;omega,rfl,rfl⟩
    |false=>
     cases rH:((l.getD i aC).1.t==[47])with
     |true=>
      obtain⟨f',rz,bV⟩:=go 6 (by rw[hfind];unfold fK;simp only[find?,lV,rH,if_true,if_false,Bool.false_eq_true]) hlt;cases hf:part (i+1)with
      |bad er j=>
       have c:=hp.bad hlt hf;rw[hf]at bV;obtain rfl:aF.bad er j=r:=bV;iterate 40 all_goals ((try conv=>whnf);try first|(with_reducible first|refine zY ?_|refine zN ?_|refine zT ?_|refine br (fun _=> ?_) (fun _=> ?_)|refine⟨rfl,?_⟩)|(refine cp.call rfl ?_)|(refine c.bO (by rw[e7];rfl) fun h=> ?_))
       exact aW (ai _ _)
      |ok y j=>
       have c:=hp.ok hlt hf;have hj:=hmono _ _ _ hlt hf;obtain⟨fM,yv,fN,fO,bE,fP,bF⟩:=y;rw[bt]at c;rw[hf]at bV;dsimp only[aF.then]at bV;iterate 40 all_goals ((try conv=>whnf);try first|(with_reducible first|refine zY ?_|refine zN ?_|refine zT ?_|refine br (fun _=> ?_) (fun _=> ?_)|refine⟨rfl,?_⟩)|(refine cp.call rfl ?_)|(refine c.call (by rw[e7];rfl) ?_))
       refine⟨fun j=>Nat.beq j 6,_,_,aQ,.cons (.same _) (.cons (eJ (cS (dW (x:= .mk op v tb nm slot kd args) (y:= .mk fM yv fN fO bE fP bF) rfl (.lit (aD (.mk op v tb nm slot kd args))) (.lit (aD (.mk fM yv fN fO bE fP bF)))))) .refl),?_⟩;iterate 12 all_goals ((try conv=>whnf);try first|(with_reducible first|refine zY ?_|refine zN ?_|refine zT ?_|refine br (fun _=> ?_) (fun _=> ?_)|refine⟨rfl,?_⟩))
       exact⟨⟨(f',qw 6 [.mk op v tb nm slot kd args,.mk fM yv fN fO bE fP bF],j),hj.2,by dsimp only;omega,bV⟩,by dsimp only;omega,rfl,rfl⟩
     |false=>
      cases vO:((l.getD i aC).1.t==[37])with
      |true=>
       obtain⟨f',rz,bV⟩:=go 7 (by rw[hfind];unfold fK;simp only[find?,lV,rH,vO,if_true,if_false,Bool.false_eq_true]) hlt;cases hf:part (i+1)with
       |bad er j=>
        have c:=hp.bad hlt hf;rw[hf]at bV;obtain rfl:aF.bad er j=r:=bV;iterate 40 all_goals ((try conv=>whnf);try first|(with_reducible first|refine zY ?_|refine zN ?_|refine zT ?_|refine br (fun _=> ?_) (fun _=> ?_)|refine⟨rfl,?_⟩)|(refine cp.call rfl ?_)|(refine c.bO (by rw[e7];rfl) fun h=> ?_))
        exact aW (ai _ _)
       |ok y j=>
        have c:=hp.ok hlt hf;have hj:=hmono _ _ _ hlt hf;obtain⟨fM,yv,fN,fO,bE,fP,bF⟩:=y;rw[bt]at c;rw[hf]at bV;dsimp only[aF.then]at bV;iterate 40 all_goals ((try conv=>whnf);try first|(with_reducible first|refine zY ?_|refine zN ?_|refine zT ?_|refine br (fun _=> ?_) (fun _=> ?_)|refine⟨rfl,?_⟩)|(refine cp.call rfl ?_)|(refine c.call (by rw[e7];rfl) ?_))
        refine⟨fun j=>Nat.beq j 6,_,_,aQ,.cons (.same _) (.cons (eJ (cS (dW (x:= .mk op v tb nm slot kd args) (y:= .mk fM yv fN fO bE fP bF) rfl (.lit (aD (.mk op v tb nm slot kd args))) (.lit (aD (.mk fM yv fN fO bE fP bF)))))) .refl),?_⟩;iterate 12 all_goals ((try conv=>whnf);try first|(with_reducible first|refine zY ?_|refine zN ?_|refine zT ?_|refine br (fun _=> ?_) (fun _=> ?_)|refine⟨rfl,?_⟩))
        exact⟨⟨(f',qw 7 [.mk op v tb nm slot kd args,.mk fM yv fN fO bE fP bF],j),hj.2,by dsimp only;omega,bV⟩,by dsimp only;omega,rfl,rfl⟩
      |false=>
       obtain rfl:=stop (by rw[hfind];unfold fK;simp only[find?,lV,rH,vO,if_true,if_false,Bool.false_eq_true]);iterate 40 all_goals ((try conv=>whnf);try first|(with_reducible first|refine zY ?_|refine zN ?_|refine zT ?_|refine br (fun _=> ?_) (fun _=> ?_)|refine⟨rfl,?_⟩)|(refine cp.call rfl ?_))
       all_goals exact bT (.lit (aD (.mk op v tb nm slot kd args))) rfl
end
end Go.Proofs.YtbjifmbemdhndaaGreatDoor
