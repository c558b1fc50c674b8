/- Parts of the proof of PParserBlanks, one behind the other, with short names. -/
import Derived.Test.YtbjifmbemdhndaaGreatDoorZ46
set_option linter.unusedVariables false
set_option linter.unusedSimpArgs false
namespace Go.Proofs.YtbjifmbemdhndaaGreatDoor
open Ab Go.RowKit
set_option maxRecDepth 100000
set_option maxHeartbeats 4000000
attribute [local irreducible] bB cH
theorem y5(f:FuncId):bJ (.func (.func f) [] []):=by
 constructor
 all_goals (intro v hv;cases hv)
def lp(q:Nat->Bool):Nat->Bool
 |0=>true
 |n+1=>lp q n&&q n
theorem fY{q:Nat->Bool}: ∀ {n i:Nat},i<n->q i=false->lp q n=false
 |0,_,h,_=>absurd h (Nat.not_lt_zero _)
 |n+1,i,h,hq=>by
  rcases Nat.lt_succ_iff_lt_or_eq.1 h with h|rfl
  ·rw[lp,fY h hq,Bool.false_and]
  ·rw[lp,hq,Bool.and_false]
theorem gP{q:Nat->Bool}: ∀ {n:Nat},(∀ i,i<n->q i=true)->lp q n=true
 |0,_=>rfl
 |n+1,h=>by rw[lp,gP fun i hi=>h i (by omega),h n (by omega)];rfl
theorem MG{n k:Nat}{g h:Nat->SV}{f:FuncId}{q:Nat->Bool}(hf:fh Tryz.prog f=true)(hu:n<=100000)(hg: ∀i,i<n-> ∃a0 a1 a2 a3 a4 a5 a6 a7 a8:SV,g i= .agg [a0,a1,a2,a3,a4,a5,a6,a7,a8]/\dj [a0,a1,a2,a3,a4,a5,a6,a7,a8]=true)(hh: ∀i,i<k-> ∃b0 b1 b2 b3 b4 b5 b6 b7 b8:SV,h i= .agg [b0,b1,b2,b3,b4,b5,b6,b7,b8]/\dj [b0,b1,b2,b3,b4,b5,b6,b7,b8]=true)(hc:n=k-> ∀i,i<n->aj Tryz.prog f [g i,h i] (.bool (q i))):
  aj Tryz.prog 41 [.dm 9 n g,.dm 9 k h,.func (.func f) [] []] (.bool (n==k&&lp q n)):=by
 refine bQ (ux (.dm _ _ _) (.dm _ _ _) (y5 _)) (L7.call mixed rfl ?_);by_cases hl:n=k
 ·subst hl
  have h1:((n:Int)!=(n:Int))=false:=by simp
  rw[show (n==n)=true from beq_self_eq_true n,Bool.true_and];iterate 20 all_goals ((try conv=>whnf);try first|(with_reducible first|refine zY ?_|refine zN ?_|refine zT ?_|refine br (fun _=> ?_) (fun _=> ?_)|refine⟨rfl,?_⟩))
  refine ig (σ:={i:Nat // i<=n/\ ∀j,j<i->q j=true}) (fun y=>[(0,.dm 9 n g),(1,.dm 9 n h),(2,.func (.func f) [] []),(6,.bool false),(14,.bool false),(15,.dm 9 n g),(16,.int .i64 (n:Int)),(17,.int .i64 ((y.1:Nat):Int))])
   (fun _=>⟨0,[]⟩) (fun y=>n-y.1) (fun _=>0) (fun _=>Nat.le_refl 0) ?_ ⟨0,Nat.zero_le _,fun _ h=>absurd h (Nat.not_lt_zero _)⟩
  rintro⟨i,hi,hq⟩;dsimp only;have e7:IntKind.i64.wrap ((i:Int)+1)=((i+1:Nat):Int):=bN (by omega);have et:=Int.toNat_natCast i;by_cases hil:i<n
  ·have hd:decide ((i:Int)<(n:Int))=true:=decide_eq_true (by omega)
   have hb:(decide (0<=(i:Int))&&decide ((i:Int)<(n:Int)))=true:=by simp only[Bool.and_eq_true,decide_eq_true_eq];omega
   obtain⟨a0,a1,a2,a3,a4,a5,a6,a7,a8,ea,oa⟩:=hg i hil;obtain⟨b0,b1,b2,b3,b4,b5,b6,b7,b8,eb,ob⟩:=hh i hil;have pa:(Nat.beq [a0,a1,a2,a3,a4,a5,a6,a7,a8].length 9&&dj [a0,a1,a2,a3,a4,a5,a6,a7,a8])=true:=oa;have pb:(Nat.beq [b0,b1,b2,b3,b4,b5,b6,b7,b8].length 9&&dj [b0,b1,b2,b3,b4,b5,b6,b7,b8])=true:=ob;have cf:=hc rfl i hil;rw[ea,eb]at cf;rw[<- et]at ea eb;cases hU:q i with
   |false=>
    rw[hU]at cf;iterate 80 all_goals ((try conv=>whnf);try first|(with_reducible first|refine zY ?_|refine zN ?_|refine zT ?_|refine br (fun _=> ?_) (fun _=> ?_)|refine⟨rfl,?_⟩)|(refine aj.call cf ?_)|(rewrite [ea])|(rewrite [eb]))
    exact leaf (by rw[fY hil hU]) (.bool _)
   |true=>
    rw[hU]at cf;iterate 80 all_goals ((try conv=>whnf);try first|(with_reducible first|refine zY ?_|refine zN ?_|refine zT ?_|refine br (fun _=> ?_) (fun _=> ?_)|refine⟨rfl,?_⟩)|(refine aj.call cf ?_)|(rewrite [ea])|(rewrite [eb]))
    exact⟨⟨i+1,hil,fun j hj=>by
     rcases(by omega:j<i\/j=i)with h|rfl
     ·exact hq j h
     ·exact hU⟩,by dsimp only;omega,by rw[e7],rfl⟩
  ·have hd:decide ((i:Int)<(n:Int))=false:=decide_eq_false (by omega)
   obtain rfl:i=n:=by omega
   iterate 20 all_goals ((try conv=>whnf);try first|(with_reducible first|refine zY ?_|refine zN ?_|refine zT ?_|refine br (fun _=> ?_) (fun _=> ?_)|refine⟨rfl,?_⟩))
   exact leaf (by rw[gP hq]) (.bool _)
 ·have h1:((n:Int)!=(k:Int))=true:=bne_iff_ne.2 (by omega)
  rw[show (n==k)=false from beq_eq_false_iff_ne.2 hl,Bool.false_and];iterate 20 all_goals ((try conv=>whnf);try first|(with_reducible first|refine zY ?_|refine zN ?_|refine zT ?_|refine br (fun _=> ?_) (fun _=> ?_)|refine⟨rfl,?_⟩))
  exact leaf rfl (.bool _)
theorem La{n k:Nat}{g h:Nat->SV}{f:FuncId}{q:Nat->Bool}(hf:fh Tryz.prog f=true)(hu:n<=100000)(hg: ∀i,i<n-> ∃(am:Nat) (af:Nat->SV),g i= .dm 9 am af)(hh: ∀i,i<k-> ∃(bm:Nat) (bf:Nat->SV),h i= .dm 9 bm bf)(hc:n=k-> ∀i,i<n->aj Tryz.prog f [g i,h i] (.bool (q i))):
  aj Tryz.prog 39 [.dm 1 n g,.dm 1 k h,.func (.func f) [] []] (.bool (n==k&&lp q n)):=by
 refine bQ (ux (.dm _ _ _) (.dm _ _ _) (y5 _)) (L6.call mixed rfl ?_);by_cases hl:n=k
 ·subst hl
  have h1:((n:Int)!=(n:Int))=false:=by simp
  rw[show (n==n)=true from beq_self_eq_true n,Bool.true_and];iterate 20 all_goals ((try conv=>whnf);try first|(with_reducible first|refine zY ?_|refine zN ?_|refine zT ?_|refine br (fun _=> ?_) (fun _=> ?_)|refine⟨rfl,?_⟩))
  refine ig (σ:={i:Nat // i<=n/\ ∀j,j<i->q j=true}) (fun y=>[(0,.dm 1 n g),(1,.dm 1 n h),(2,.func (.func f) [] []),(6,.bool false),(14,.bool false),(15,.dm 1 n g),(16,.int .i64 (n:Int)),(17,.int .i64 ((y.1:Nat):Int))])
   (fun _=>⟨0,[]⟩) (fun y=>n-y.1) (fun _=>0) (fun _=>Nat.le_refl 0) ?_ ⟨0,Nat.zero_le _,fun _ h=>absurd h (Nat.not_lt_zero _)⟩
  rintro⟨i,hi,hq⟩;dsimp only;have e7:IntKind.i64.wrap ((i:Int)+1)=((i+1:Nat):Int):=bN (by omega);have et:=Int.toNat_natCast i;by_cases hil:i<n
  ·have hd:decide ((i:Int)<(n:Int))=true:=decide_eq_true (by omega)
   have hb:(decide (0<=(i:Int))&&decide ((i:Int)<(n:Int)))=true:=by simp only[Bool.and_eq_true,decide_eq_true_eq];omega
   obtain⟨am,af,ea⟩:=hg i hil;obtain⟨bm,bf,eb⟩:=hh i hil;have cf:=hc rfl i hil;rw[ea,eb]at cf;rw[<- et]at ea eb;cases hU:q i with
   |false=>
    rw[hU]at cf;iterate 80 all_goals ((try conv=>whnf);try first|(with_reducible first|refine zY ?_|refine zN ?_|refine zT ?_|refine br (fun _=> ?_) (fun _=> ?_)|refine⟨rfl,?_⟩)|(refine aj.call cf ?_)|(rewrite [ea])|(rewrite [eb]))
    exact leaf (by rw[fY hil hU]) (.bool _)
   |true=>
    rw[hU]at cf;iterate 80 all_goals ((try conv=>whnf);try first|(with_reducible first|refine zY ?_|refine zN ?_|refine zT ?_|refine br (fun _=> ?_) (fun _=> ?_)|refine⟨rfl,?_⟩)|(refine aj.call cf ?_)|(rewrite [ea])|(rewrite [eb]))
    exact⟨⟨i+1,hil,fun j hj=>by
     rcases(by omega:j<i\/j=i)with h|rfl
     ·exact hq j h
     ·exact hU⟩,by dsimp only;omega,by rw[e7],rfl⟩
  ·have hd:decide ((i:Int)<(n:Int))=false:=decide_eq_false (by omega)
   obtain rfl:i=n:=by omega
   iterate 20 all_goals ((try conv=>whnf);try first|(with_reducible first|refine zY ?_|refine zN ?_|refine zT ?_|refine br (fun _=> ?_) (fun _=> ?_)|refine⟨rfl,?_⟩))
   exact leaf (by rw[gP hq]) (.bool _)
 ·have h1:((n:Int)!=(k:Int))=true:=bne_iff_ne.2 (by omega)
  rw[show (n==k)=false from beq_eq_false_iff_ne.2 hl,Bool.false_and];iterate 20 all_goals ((try conv=>whnf);try first|(with_reducible first|refine zY ?_|refine zN ?_|refine zT ?_|refine br (fun _=> ?_) (fun _=> ?_)|refine⟨rfl,?_⟩))
  exact leaf rfl (.bool _)
theorem Lc{n k:Nat}{g h:Nat->SV}{f:FuncId}{q:Nat->Bool}(hf:fh Tryz.prog f=true)(hu:n<=100000)(hg: ∀i,i<n-> ∃a0 a1 a2 a3 a4 a5 a6 a7 a8 a9 yS:SV,g i= .agg [a0,a1,a2,a3,a4,a5,a6,a7,a8,a9,yS]/\dj [a0,a1,a2,a3,a4,a5,a6,a7,a8,a9,yS]=true)(hh: ∀i,i<k-> ∃b0 b1 b2 b3 b4 b5 b6 b7 b8 b9 yT:SV,h i= .agg [b0,b1,b2,b3,b4,b5,b6,b7,b8,b9,yT]/\dj [b0,b1,b2,b3,b4,b5,b6,b7,b8,b9,yT]=true)(hc:n=k-> ∀i,i<n->aj Tryz.prog f [g i,h i] (.bool (q i))):
  aj Tryz.prog 42 [.dm 11 n g,.dm 11 k h,.func (.func f) [] []] (.bool (n==k&&lp q n)):=by
 refine bQ (ux (.dm _ _ _) (.dm _ _ _) (y5 _)) (L8.call mixed rfl ?_);by_cases hl:n=k
 ·subst hl
  have h1:((n:Int)!=(n:Int))=false:=by simp
  rw[show (n==n)=true from beq_self_eq_true n,Bool.true_and];iterate 20 all_goals ((try conv=>whnf);try first|(with_reducible first|refine zY ?_|refine zN ?_|refine zT ?_|refine br (fun _=> ?_) (fun _=> ?_)|refine⟨rfl,?_⟩))
  refine ig (σ:={i:Nat // i<=n/\ ∀j,j<i->q j=true}) (fun y=>[(0,.dm 11 n g),(1,.dm 11 n h),(2,.func (.func f) [] []),(6,.bool false),(14,.bool false),(15,.dm 11 n g),(16,.int .i64 (n:Int)),(17,.int .i64 ((y.1:Nat):Int))])
   (fun _=>⟨0,[]⟩) (fun y=>n-y.1) (fun _=>0) (fun _=>Nat.le_refl 0) ?_ ⟨0,Nat.zero_le _,fun _ h=>absurd h (Nat.not_lt_zero _)⟩
  rintro⟨i,hi,hq⟩;dsimp only;have e7:IntKind.i64.wrap ((i:Int)+1)=((i+1:Nat):Int):=bN (by omega);have et:=Int.toNat_natCast i;by_cases hil:i<n
  ·have hd:decide ((i:Int)<(n:Int))=true:=decide_eq_true (by omega)
   have hb:(decide (0<=(i:Int))&&decide ((i:Int)<(n:Int)))=true:=by simp only[Bool.and_eq_true,decide_eq_true_eq];omega
   obtain⟨a0,a1,a2,a3,a4,a5,a6,a7,a8,a9,yS,ea,oa⟩:=hg i hil;obtain⟨b0,b1,b2,b3,b4,b5,b6,b7,b8,b9,yT,eb,ob⟩:=hh i hil;have pa:(Nat.beq [a0,a1,a2,a3,a4,a5,a6,a7,a8,a9,yS].length 11&&dj [a0,a1,a2,a3,a4,a5,a6,a7,a8,a9,yS])=true:=oa;have pb:(Nat.beq [b0,b1,b2,b3,b4,b5,b6,b7,b8,b9,yT].length 11&&dj [b0,b1,b2,b3,b4,b5,b6,b7,b8,b9,yT])=true:=ob;have cf:=hc rfl i hil;rw[ea,eb]at cf;rw[<- et]at ea eb;cases hU:q i with
   |false=>
    rw[hU]at cf;iterate 80 all_goals ((try conv=>whnf);try first|(with_reducible first|refine zY ?_|refine zN ?_|refine zT ?_|refine br (fun _=> ?_) (fun _=> ?_)|refine⟨rfl,?_⟩)|(refine aj.call cf ?_)|(rewrite [ea])|(rewrite [eb]))
    exact leaf (by rw[fY hil hU]) (.bool _)
   |true=>
    rw[hU]at cf;iterate 80 all_goals ((try conv=>whnf);try first|(with_reducible first|refine zY ?_|refine zN ?_|refine zT ?_|refine br (fun _=> ?_) (fun _=> ?_)|refine⟨rfl,?_⟩)|(refine aj.call cf ?_)|(rewrite [ea])|(rewrite [eb]))
    exact⟨⟨i+1,hil,fun j hj=>by
     rcases(by omega:j<i\/j=i)with h|rfl
     ·exact hq j h
     ·exact hU⟩,by dsimp only;omega,by rw[e7],rfl⟩
  ·have hd:decide ((i:Int)<(n:Int))=false:=decide_eq_false (by omega)
   obtain rfl:i=n:=by omega
   iterate 20 all_goals ((try conv=>whnf);try first|(with_reducible first|refine zY ?_|refine zN ?_|refine zT ?_|refine br (fun _=> ?_) (fun _=> ?_)|refine⟨rfl,?_⟩))
   exact leaf (by rw[gP hq]) (.bool _)
 ·have h1:((n:Int)!=(k:Int))=true:=bne_iff_ne.2 (by omega)
  rw[show (n==k)=false from beq_eq_false_iff_ne.2 hl,Bool.false_and];iterate 20 all_goals ((try conv=>whnf);try first|(with_reducible first|refine zY ?_|refine zN ?_|refine zT ?_|refine br (fun _=> ?_) (fun _=> ?_)|refine⟨rfl,?_⟩))
  exact leaf rfl (.bool _)
theorem G0{n k:Nat}{g h:Nat->SV}{f:FuncId}{q:Nat->Bool}(hf:fh Tryz.prog f=true)(hu:n<=100000)(hg: ∀i,i<n-> ∃a0 a1 a2 a3 a4 a5 a6 a7 a8 a9 yS:SV,g i= .agg [a0,a1,a2,a3,a4,a5,a6,a7,a8,a9,yS]/\dj [a0,a1,a2,a3,a4,a5,a6,a7,a8,a9,yS]=true)(hh: ∀i,i<k-> ∃b0 b1 b2 b3 b4 b5 b6 b7 b8 b9 yT:SV,h i= .agg [b0,b1,b2,b3,b4,b5,b6,b7,b8,b9,yT]/\dj [b0,b1,b2,b3,b4,b5,b6,b7,b8,b9,yT]=true)(hc:n=k-> ∀i,i<n->aj Tryz.prog f [g i,h i] (.bool (q i))):
  aj Tryz.prog 44 [.dm 11 n g,.dm 11 k h,.func (.func f) [] []] (.bool (n==k&&lp q n)):=by
 refine bQ (ux (.dm _ _ _) (.dm _ _ _) (y5 _)) (Ma.call mixed rfl ?_);by_cases hl:n=k
 ·subst hl
  have h1:((n:Int)!=(n:Int))=false:=by simp
  rw[show (n==n)=true from beq_self_eq_true n,Bool.true_and];iterate 20 all_goals ((try conv=>whnf);try first|(with_reducible first|refine zY ?_|refine zN ?_|refine zT ?_|refine br (fun _=> ?_) (fun _=> ?_)|refine⟨rfl,?_⟩))
  refine ig (σ:={i:Nat // i<=n/\ ∀j,j<i->q j=true}) (fun y=>[(0,.dm 11 n g),(1,.dm 11 n h),(2,.func (.func f) [] []),(6,.bool false),(14,.bool false),(15,.dm 11 n g),(16,.int .i64 (n:Int)),(17,.int .i64 ((y.1:Nat):Int))])
   (fun _=>⟨0,[]⟩) (fun y=>n-y.1) (fun _=>0) (fun _=>Nat.le_refl 0) ?_ ⟨0,Nat.zero_le _,fun _ h=>absurd h (Nat.not_lt_zero _)⟩
  rintro⟨i,hi,hq⟩;dsimp only;have e7:IntKind.i64.wrap ((i:Int)+1)=((i+1:Nat):Int):=bN (by omega);have et:=Int.toNat_natCast i;by_cases hil:i<n
  ·have hd:decide ((i:Int)<(n:Int))=true:=decide_eq_true (by omega)
   have hb:(decide (0<=(i:Int))&&decide ((i:Int)<(n:Int)))=true:=by simp only[Bool.and_eq_true,decide_eq_true_eq];omega
   obtain⟨a0,a1,a2,a3,a4,a5,a6,a7,a8,a9,yS,ea,oa⟩:=hg i hil;obtain⟨b0,b1,b2,b3,b4,b5,b6,b7,b8,b9,yT,eb,ob⟩:=hh i hil;have pa:(Nat.beq [a0,a1,a2,a3,a4,a5,a6,a7,a8,a9,yS].length 11&&dj [a0,a1,a2,a3,a4,a5,a6,a7,a8,a9,yS])=true:=oa;have pb:(Nat.beq [b0,b1,b2,b3,b4,b5,b6,b7,b8,b9,yT].length 11&&dj [b0,b1,b2,b3,b4,b5,b6,b7,b8,b9,yT])=true:=ob;have cf:=hc rfl i hil;rw[ea,eb]at cf;rw[<- et]at ea eb;cases hU:q i with
   |false=>
    rw[hU]at cf;iterate 80 all_goals ((try conv=>whnf);try first|(with_reducible first|refine zY ?_|refine zN ?_|refine zT ?_|refine br (fun _=> ?_) (fun _=> ?_)|refine⟨rfl,?_⟩)|(refine aj.call cf ?_)|(rewrite [ea])|(rewrite [eb]))
    exact leaf (by rw[fY hil hU]) (.bool _)
   |true=>
    rw[hU]at cf;iterate 80 all_goals ((try conv=>whnf);try first|(with_reducible first|refine zY ?_|refine zN ?_|refine zT ?_|refine br (fun _=> ?_) (fun _=> ?_)|refine⟨rfl,?_⟩)|(refine aj.call cf ?_)|(rewrite [ea])|(rewrite [eb]))
    exact⟨⟨i+1,hil,fun j hj=>by
     rcases(by omega:j<i\/j=i)with h|rfl
     ·exact hq j h
     ·exact hU⟩,by dsimp only;omega,by rw[e7],rfl⟩
  ·have hd:decide ((i:Int)<(n:Int))=false:=decide_eq_false (by omega)
   obtain rfl:i=n:=by omega
   iterate 20 all_goals ((try conv=>whnf);try first|(with_reducible first|refine zY ?_|refine zN ?_|refine zT ?_|refine br (fun _=> ?_) (fun _=> ?_)|refine⟨rfl,?_⟩))
   exact leaf (by rw[gP hq]) (.bool _)
 ·have h1:((n:Int)!=(k:Int))=true:=bne_iff_ne.2 (by omega)
  rw[show (n==k)=false from beq_eq_false_iff_ne.2 hl,Bool.false_and];iterate 20 all_goals ((try conv=>whnf);try first|(with_reducible first|refine zY ?_|refine zN ?_|refine zT ?_|refine br (fun _=> ?_) (fun _=> ?_)|refine⟨rfl,?_⟩))
  exact leaf rfl (.bool _)
theorem JD{n k:Nat}{g h:Nat->SV}{f:FuncId}{q:Nat->Bool}(hf:fh Tryz.prog f=true)(hu:n<=100000)(hg: ∀i,i<n-> ∃a0 a1 a2 a3 a4 a5 a6 a7 a8 a9:SV,g i= .agg [a0,a1,a2,a3,a4,a5,a6,a7,a8,a9]/\dj [a0,a1,a2,a3,a4,a5,a6,a7,a8,a9]=true)(hh: ∀i,i<k-> ∃b0 b1 b2 b3 b4 b5 b6 b7 b8 b9:SV,h i= .agg [b0,b1,b2,b3,b4,b5,b6,b7,b8,b9]/\dj [b0,b1,b2,b3,b4,b5,b6,b7,b8,b9]=true)(hc:n=k-> ∀i,i<n->aj Tryz.prog f [g i,h i] (.bool (q i))):
  aj Tryz.prog 46 [.dm 10 n g,.dm 10 k h,.func (.func f) [] []] (.bool (n==k&&lp q n)):=by
 refine bQ (ux (.dm _ _ _) (.dm _ _ _) (y5 _)) (Mc.call mixed rfl ?_);by_cases hl:n=k
 ·subst hl
  have h1:((n:Int)!=(n:Int))=false:=by simp
  rw[show (n==n)=true from beq_self_eq_true n,Bool.true_and];iterate 20 all_goals ((try conv=>whnf);try first|(with_reducible first|refine zY ?_|refine zN ?_|refine zT ?_|refine br (fun _=> ?_) (fun _=> ?_)|refine⟨rfl,?_⟩))
  refine ig (σ:={i:Nat // i<=n/\ ∀j,j<i->q j=true}) (fun y=>[(0,.dm 10 n g),(1,.dm 10 n h),(2,.func (.func f) [] []),(6,.bool false),(14,.bool false),(15,.dm 10 n g),(16,.int .i64 (n:Int)),(17,.int .i64 ((y.1:Nat):Int))])
   (fun _=>⟨0,[]⟩) (fun y=>n-y.1) (fun _=>0) (fun _=>Nat.le_refl 0) ?_ ⟨0,Nat.zero_le _,fun _ h=>absurd h (Nat.not_lt_zero _)⟩
  rintro⟨i,hi,hq⟩;dsimp only;have e7:IntKind.i64.wrap ((i:Int)+1)=((i+1:Nat):Int):=bN (by omega);have et:=Int.toNat_natCast i;by_cases hil:i<n
  ·have hd:decide ((i:Int)<(n:Int))=true:=decide_eq_true (by omega)
   have hb:(decide (0<=(i:Int))&&decide ((i:Int)<(n:Int)))=true:=by simp only[Bool.and_eq_true,decide_eq_true_eq];omega
   obtain⟨a0,a1,a2,a3,a4,a5,a6,a7,a8,a9,ea,oa⟩:=hg i hil;obtain⟨b0,b1,b2,b3,b4,b5,b6,b7,b8,b9,eb,ob⟩:=hh i hil;have pa:(Nat.beq [a0,a1,a2,a3,a4,a5,a6,a7,a8,a9].length 10&&dj [a0,a1,a2,a3,a4,a5,a6,a7,a8,a9])=true:=oa;have pb:(Nat.beq [b0,b1,b2,b3,b4,b5,b6,b7,b8,b9].length 10&&dj [b0,b1,b2,b3,b4,b5,b6,b7,b8,b9])=true:=ob;have cf:=hc rfl i hil;rw[ea,eb]at cf;rw[<- et]at ea eb;cases hU:q i with
   |false=>
    rw[hU]at cf;iterate 80 all_goals ((try conv=>whnf);try first|(with_reducible first|refine zY ?_|refine zN ?_|refine zT ?_|refine br (fun _=> ?_) (fun _=> ?_)|refine⟨rfl,?_⟩)|(refine aj.call cf ?_)|(rewrite [ea])|(rewrite [eb]))
    exact leaf (by rw[fY hil hU]) (.bool _)
   |true=>
    rw[hU]at cf;iterate 80 all_goals ((try conv=>whnf);try first|(with_reducible first|refine zY ?_|refine zN ?_|refine zT ?_|refine br (fun _=> ?_) (fun _=> ?_)|refine⟨rfl,?_⟩)|(refine aj.call cf ?_)|(rewrite [ea])|(rewrite [eb]))
    exact⟨⟨i+1,hil,fun j hj=>by
     rcases(by omega:j<i\/j=i)with h|rfl
     ·exact hq j h
     ·exact hU⟩,by dsimp only;omega,by rw[e7],rfl⟩
  ·have hd:decide ((i:Int)<(n:Int))=false:=decide_eq_false (by omega)
   obtain rfl:i=n:=by omega
   iterate 20 all_goals ((try conv=>whnf);try first|(with_reducible first|refine zY ?_|refine zN ?_|refine zT ?_|refine br (fun _=> ?_) (fun _=> ?_)|refine⟨rfl,?_⟩))
   exact leaf (by rw[gP hq]) (.bool _)
 ·have h1:((n:Int)!=(k:Int))=true:=bne_iff_ne.2 (by omega)
  rw[show (n==k)=false from beq_eq_false_iff_ne.2 hl,Bool.false_and];iterate 20 all_goals ((try conv=>whnf);try first|(with_reducible first|refine zY ?_|refine zN ?_|refine zT ?_|refine br (fun _=> ?_) (fun _=> ?_)|refine⟨rfl,?_⟩))
  exact leaf rfl (.bool _)
theorem G1{n k:Nat}{g h:Nat->SV}{f:FuncId}{q:Nat->Bool}(hf:fh Tryz.prog f=true)(hu:n<=100000)(hg: ∀i,i<n-> ∃a0 a1 a2 a3 a4 a5 a6 a7 a8 a9 yS:SV,g i= .agg [a0,a1,a2,a3,a4,a5,a6,a7,a8,a9,yS]/\dj [a0,a1,a2,a3,a4,a5,a6,a7,a8,a9,yS]=true)(hh: ∀i,i<k-> ∃b0 b1 b2 b3 b4 b5 b6 b7 b8 b9 yT:SV,h i= .agg [b0,b1,b2,b3,b4,b5,b6,b7,b8,b9,yT]/\dj [b0,b1,b2,b3,b4,b5,b6,b7,b8,b9,yT]=true)(hc:n=k-> ∀i,i<n->aj Tryz.prog f [g i,h i] (.bool (q i))):
  aj Tryz.prog 48 [.dm 11 n g,.dm 11 k h,.func (.func f) [] []] (.bool (n==k&&lp q n)):=by
 refine bQ (ux (.dm _ _ _) (.dm _ _ _) (y5 _)) (Md.call mixed rfl ?_);by_cases hl:n=k
 ·subst hl
  have h1:((n:Int)!=(n:Int))=false:=by simp
  rw[show (n==n)=true from beq_self_eq_true n,Bool.true_and];iterate 20 all_goals ((try conv=>whnf);try first|(with_reducible first|refine zY ?_|refine zN ?_|refine zT ?_|refine br (fun _=> ?_) (fun _=> ?_)|refine⟨rfl,?_⟩))
  refine ig (σ:={i:Nat // i<=n/\ ∀j,j<i->q j=true}) (fun y=>[(0,.dm 11 n g),(1,.dm 11 n h),(2,.func (.func f) [] []),(6,.bool false),(14,.bool false),(15,.dm 11 n g),(16,.int .i64 (n:Int)),(17,.int .i64 ((y.1:Nat):Int))])
   (fun _=>⟨0,[]⟩) (fun y=>n-y.1) (fun _=>0) (fun _=>Nat.le_refl 0) ?_ ⟨0,Nat.zero_le _,fun _ h=>absurd h (Nat.not_lt_zero _)⟩
  rintro⟨i,hi,hq⟩;dsimp only;have e7:IntKind.i64.wrap ((i:Int)+1)=((i+1:Nat):Int):=bN (by omega);have et:=Int.toNat_natCast i;by_cases hil:i<n
  ·have hd:decide ((i:Int)<(n:Int))=true:=decide_eq_true (by omega)
   have hb:(decide (0<=(i:Int))&&decide ((i:Int)<(n:Int)))=true:=by simp only[Bool.and_eq_true,decide_eq_true_eq];omega
   obtain⟨a0,a1,a2,a3,a4,a5,a6,a7,a8,a9,yS,ea,oa⟩:=hg i hil;obtain⟨b0,b1,b2,b3,b4,b5,b6,b7,b8,b9,yT,eb,ob⟩:=hh i hil;have pa:(Nat.beq [a0,a1,a2,a3,a4,a5,a6,a7,a8,a9,yS].length 11&&dj [a0,a1,a2,a3,a4,a5,a6,a7,a8,a9,yS])=true:=oa;have pb:(Nat.beq [b0,b1,b2,b3,b4,b5,b6,b7,b8,b9,yT].length 11&&dj [b0,b1,b2,b3,b4,b5,b6,b7,b8,b9,yT])=true:=ob;have cf:=hc rfl i hil;rw[ea,eb]at cf;rw[<- et]at ea eb;cases hU:q i with
   |false=>
    rw[hU]at cf;iterate 80 all_goals ((try conv=>whnf);try first|(with_reducible first|refine zY ?_|refine zN ?_|refine zT ?_|refine br (fun _=> ?_) (fun _=> ?_)|refine⟨rfl,?_⟩)|(refine aj.call cf ?_)|(rewrite [ea])|(rewrite [eb]))
    exact leaf (by rw[fY hil hU]) (.bool _)
   |true=>
    rw[hU]at cf;iterate 80 all_goals ((try conv=>whnf);try first|(with_reducible first|refine zY ?_|refine zN ?_|refine zT ?_|refine br (fun _=> ?_) (fun _=> ?_)|refine⟨rfl,?_⟩)|(refine aj.call cf ?_)|(rewrite [ea])|(rewrite [eb]))
    exact⟨⟨i+1,hil,fun j hj=>by
     rcases(by omega:j<i\/j=i)with h|rfl
     ·exact hq j h
     ·exact hU⟩,by dsimp only;omega,by rw[e7],rfl⟩
  ·have hd:decide ((i:Int)<(n:Int))=false:=decide_eq_false (by omega)
   obtain rfl:i=n:=by omega
   iterate 20 all_goals ((try conv=>whnf);try first|(with_reducible first|refine zY ?_|refine zN ?_|refine zT ?_|refine br (fun _=> ?_) (fun _=> ?_)|refine⟨rfl,?_⟩))
   exact leaf (by rw[gP hq]) (.bool _)
 ·have h1:((n:Int)!=(k:Int))=true:=bne_iff_ne.2 (by omega)
  rw[show (n==k)=false from beq_eq_false_iff_ne.2 hl,Bool.false_and];iterate 20 all_goals ((try conv=>whnf);try first|(with_reducible first|refine zY ?_|refine zN ?_|refine zT ?_|refine br (fun _=> ?_) (fun _=> ?_)|refine⟨rfl,?_⟩))
  exact leaf rfl (.bool _)
mutual
def fD:Ex->Ex->Bool
 | .mk op v tb nm slot kd args,.mk op' v' XC XD SF XE args'=>op==op'&&(v.k==v'.k&&(v.i==v'.i&&v.s==v'.s))&&tb==XC&&nm==XD&&slot==SF&&kd==XE&&rF args args'
def rF:List Ex->List Ex->Bool
 | [],[]=>true
 |x::r,y::s=>fD x y&&rF r s
 |_,_=>false
end
mutual
def ct:Ex->Bool
 | .mk _ _ _ _ _ _ args=>decide (args.length<=1000)&&om args
def om:List Ex->Bool
 | []=>true
 |x::r=>ct x&&om r
end
theorem kL: ∀l:List Ex,(iY l).length=l.length
 | []=>rfl
 |x::r=>by rw[iY,List.length_cons,List.length_cons,kL r]
theorem vq: ∀(l:List Ex) (i:Nat),i<l.length->(iY l).getD i .undef=uD (l.getD i kQ)
 | [],_,h=>absurd h (Nat.not_lt_zero _)
 |x::r,0,_=>rfl
 |x::r,i+1,h=>vq r i (Nat.lt_of_succ_lt_succ h)
theorem wX: ∀(l:List Ex) (i:Nat),om l=true->i<l.length->ct (l.getD i kQ)=true
 | [],_,_,h=>absurd h (Nat.not_lt_zero _)
 |x::r,0,hs,_=>by rw[om,Bool.and_eq_true]at hs;exact hs.1
 |x::r,i+1,hs,h=>by rw[om,Bool.and_eq_true]at hs;exact wX r i hs.2 (Nat.lt_of_succ_lt_succ h)
theorem FL: ∀(l:List Ex) (i:Nat),i<l.length->SizeOf.sizeOf (l.getD i kQ)<SizeOf.sizeOf l
 | [],_,h=>absurd h (Nat.not_lt_zero _)
 |x::r,0,_=>by show SizeOf.sizeOf x<1+SizeOf.sizeOf x+SizeOf.sizeOf r;omega
 |x::r,i+1,h=>by
  have:=FL r i (Nat.lt_of_succ_lt_succ h);show SizeOf.sizeOf (r.getD i kQ)<1+SizeOf.sizeOf x+SizeOf.sizeOf r;omega
theorem tW(q:Nat->Bool): ∀n,lp q (n+1)=(q 0&&lp (fun i=>q (i+1)) n)
 |0=>by simp[lp]
 |n+1=>by rw[lp,tW q n,lp,Bool.and_assoc]
theorem y6: ∀(l r:List Ex),((l.length==r.length)&&lp (fun i=>fD (l.getD i kQ) (r.getD i kQ)) l.length)=rF l r
 | [],[]=>rfl
 | [],_::_=>rfl
 |_::_,[]=>rfl
 |x::l,y::r=>by
  rw[rF,<-y6 l r,List.length_cons,List.length_cons,tW];show((l.length+1==r.length+1)&&(fD x y&&lp (fun i=>fD (l.getD i kQ) (r.getD i kQ)) l.length))=_
  have:(l.length+1==r.length+1)=(l.length==r.length):=by
   by_cases h:l.length=r.length
   ·rw[h];simp
   ·rw[beq_eq_false_iff_ne.2 h];exact beq_eq_false_iff_ne.2 (by omega)
  rw[this];cases (l.length==r.length)<;>cases fD x y<;>rfl
theorem Ld(x:Ex):dj (Qv x)=true:=rfl
theorem G2: ∀(n:Nat) (x y:Ex),SizeOf.sizeOf x<=n->ct x=true->aj Tryz.prog 18 [uD x,uD y] (.bool (fD x y)):=by
 intro n
 induction n with
 |zero=>intro x y h;cases x;exact absurd h (by simp)
 |succ n ih=>
  intro x y hn hs;obtain⟨op,⟨vk,vi,vs⟩,tb,nm,slot,kd,args⟩:=x;obtain⟨V4,⟨V5,V6,V7⟩,V8,V9,MH,Wa,args2⟩:=y;rw[ct,Bool.and_eq_true]at hs;have hz:SizeOf.sizeOf args<n+1:=Nat.lt_of_lt_of_le (by simp;omega) hn;have hlen:args.length<=1000:=of_decide_eq_true hs.1
  have ca:aj Tryz.prog 41 [mT (iY args),mT (iY args2),.func (.func 18) [] []] (.bool (rF args args2)):=by
   rw[<- y6,<-kL args,<-kL args2]
   have sh: ∀(l:List Ex) (i:Nat),i<(iY l).length-> ∃a0 a1 a2 a3 a4 a5 a6 a7 a8:SV,(iY l).getD i .undef= .agg [a0,a1,a2,a3,a4,a5,a6,a7,a8]/\dj [a0,a1,a2,a3,a4,a5,a6,a7,a8]=true:=fun l i hi=>by
    rw[kL]at hi;rw[vq l i hi,Js];exact⟨_,_,_,_,_,_,_,_,_,rfl,Ld _⟩
   refine MG (g:=fun i=>(iY args).getD i .undef) (h:=fun i=>(iY args2).getD i .undef) rfl (by rw[kL];omega) (sh args) (sh args2) fun he i hi=> ?_
   rw[kL]at hi;rw[kL,kL]at he;rw[vq args i hi,vq args2 i (by omega)];exact ih _ _ (by have:=FL args i hi;omega) (wX args i hs.2 hi)
  rw[fD,bt,bt];refine bQ (kE (.agg (Aa (.mk op ⟨vk,vi,vs⟩ tb nm slot kd args))) (.agg (Aa (.mk V4 ⟨V5,V6,V7⟩ V8 V9 MH Wa args2)))) (LY.call mixed rfl ?_);cases h0:(op==V4)with
  |false=>
   iterate 60 all_goals ((try conv=>whnf);try first|(with_reducible first|refine zY ?_|refine zN ?_|refine zT ?_|refine br (fun _=> ?_) (fun _=> ?_)|refine⟨rfl,?_⟩))
   exact leaf (by simp) (.bool _)
  |true=>
   cases h1:(vk==V5&&(vi==V6&&vs==V7))with
   |false=>
    iterate 60 all_goals ((try conv=>whnf);try first|(with_reducible first|refine zY ?_|refine zN ?_|refine zT ?_|refine br (fun _=> ?_) (fun _=> ?_)|refine⟨rfl,?_⟩))
    exact leaf (by simp) (.bool _)
   |true=>
    cases h2:(tb==V8)with
    |false=>
     iterate 60 all_goals ((try conv=>whnf);try first|(with_reducible first|refine zY ?_|refine zN ?_|refine zT ?_|refine br (fun _=> ?_) (fun _=> ?_)|refine⟨rfl,?_⟩))
     exact leaf (by simp) (.bool _)
    |true=>
     cases h3:(nm==V9)with
     |false=>
      iterate 60 all_goals ((try conv=>whnf);try first|(with_reducible first|refine zY ?_|refine zN ?_|refine zT ?_|refine br (fun _=> ?_) (fun _=> ?_)|refine⟨rfl,?_⟩))
      exact leaf (by simp) (.bool _)
     |true=>
      cases h4:(slot==MH)with
      |false=>
       iterate 60 all_goals ((try conv=>whnf);try first|(with_reducible first|refine zY ?_|refine zN ?_|refine zT ?_|refine br (fun _=> ?_) (fun _=> ?_)|refine⟨rfl,?_⟩))
       exact leaf (by simp) (.bool _)
      |true=>
       cases h5:(kd==Wa)with
       |false=>
        iterate 60 all_goals ((try conv=>whnf);try first|(with_reducible first|refine zY ?_|refine zN ?_|refine zT ?_|refine br (fun _=> ?_) (fun _=> ?_)|refine⟨rfl,?_⟩))
        exact leaf (by simp) (.bool _)
       |true=>
        iterate 60 all_goals ((try conv=>whnf);try first|(with_reducible first|refine zY ?_|refine zN ?_|refine zT ?_|refine br (fun _=> ?_) (fun _=> ?_)|refine⟨rfl,?_⟩|refine aj.call (ca) ?_))
        exact leaf (by simp) (.bool _)
end Go.Proofs.YtbjifmbemdhndaaGreatDoor
