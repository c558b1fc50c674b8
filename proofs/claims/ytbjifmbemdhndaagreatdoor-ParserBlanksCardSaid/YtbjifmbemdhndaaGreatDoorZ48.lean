/- Parts of the proof of PParserBlanks, one behind the other, with short names. -/
import Derived.Test.YtbjifmbemdhndaaGreatDoorZ47
set_option linter.unusedVariables false
set_option linter.unusedSimpArgs false
namespace Go.Proofs.YtbjifmbemdhndaaGreatDoor
open Ab Go.RowKit
set_option maxRecDepth 100000
set_option maxHeartbeats 4000000
attribute [local irreducible] bB cH
theorem Le{n k:Nat}{g h:Nat->SV}{a b:Nat->List UInt8}(hu:n<=100000)(hg: ∀i,i<n->g i=SV.str (a i))(hh: ∀i,i<k->h i=SV.str (b i)):
  aj Tryz.prog 38 [.dm 1 n g,.dm 1 k h] (.bool (n==k&&lp (fun i=>a i==b i) n)):=by
 refine bQ (kE (.dm _ _ _) (.dm _ _ _)) (L5.call mixed rfl ?_);by_cases hl:n=k
 ·subst hl
  have h1:((n:Int)!=(n:Int))=false:=by simp
  rw[show (n==n)=true from beq_self_eq_true n,Bool.true_and];generalize hq:(fun i=>a i==b i)=q;iterate 20 all_goals ((try conv=>whnf);try first|(with_reducible first|refine zY ?_|refine zN ?_|refine zT ?_|refine br (fun _=> ?_) (fun _=> ?_)|refine⟨rfl,?_⟩))
  refine ig (σ:={i:Nat // i<=n/\ ∀j,j<i->q j=true}) (fun y=>[(0,.dm 1 n g),(1,.dm 1 n h),(4,.bool false),(10,.bool false),(12,.int .i64 (n:Int)),(13,.int .i64 ((y.1:Nat):Int))])
   (fun _=>⟨0,[]⟩) (fun y=>n-y.1) (fun _=>0) (fun _=>Nat.le_refl 0) ?_ ⟨0,Nat.zero_le _,fun _ h=>absurd h (Nat.not_lt_zero _)⟩
  rintro⟨i,hi,hall⟩;dsimp only;have e7:IntKind.i64.wrap ((i:Int)+1)=((i+1:Nat):Int):=bN (by omega);have et:=Int.toNat_natCast i;by_cases hil:i<n
  ·have hd:decide ((i:Int)<(n:Int))=true:=decide_eq_true (by omega)
   have hb:(decide (0<=(i:Int))&&decide ((i:Int)<(n:Int)))=true:=by simp only[Bool.and_eq_true,decide_eq_true_eq];omega
   have ea:=hg i hil;have eb:=hh i hil;rw[<- et]at ea eb;have F0:q i=(a i==b i):=by rw[<- hq]
   rw[<- et]at F0;cases hU:(fun i=>a i==b i) (i:Int).toNat with
   |false=>
    dsimp only at hU;rw[hU,et]at F0;have hne:(!(a (i:Int).toNat==b (i:Int).toNat))=true:=by rw[hU];rfl
    iterate 80 all_goals ((try conv=>whnf);try first|(with_reducible first|refine zY ?_|refine zN ?_|refine zT ?_|refine br (fun _=> ?_) (fun _=> ?_)|refine⟨rfl,?_⟩)|(rewrite [ea])|(rewrite [eb]))
    exact leaf (by rw[fY hil F0]) (.bool _)
   |true=>
    dsimp only at hU;rw[hU,et]at F0;have hne:(!(a (i:Int).toNat==b (i:Int).toNat))=false:=by rw[hU];rfl
    iterate 80 all_goals ((try conv=>whnf);try first|(with_reducible first|refine zY ?_|refine zN ?_|refine zT ?_|refine br (fun _=> ?_) (fun _=> ?_)|refine⟨rfl,?_⟩)|(rewrite [ea])|(rewrite [eb]))
    exact⟨⟨i+1,hil,fun j hj=>by
     rcases(by omega:j<i\/j=i)with h|rfl
     ·exact hall j h
     ·exact F0⟩,by dsimp only;omega,by rw[e7],rfl⟩
  ·have hd:decide ((i:Int)<(n:Int))=false:=decide_eq_false (by omega)
   obtain rfl:i=n:=by omega
   iterate 20 all_goals ((try conv=>whnf);try first|(with_reducible first|refine zY ?_|refine zN ?_|refine zT ?_|refine br (fun _=> ?_) (fun _=> ?_)|refine⟨rfl,?_⟩))
   exact leaf (by rw[gP hall]) (.bool _)
 ·have h1:((n:Int)!=(k:Int))=true:=bne_iff_ne.2 (by omega)
  rw[show (n==k)=false from beq_eq_false_iff_ne.2 hl,Bool.false_and];iterate 20 all_goals ((try conv=>whnf);try first|(with_reducible first|refine zY ?_|refine zN ?_|refine zT ?_|refine br (fun _=> ?_) (fun _=> ?_)|refine⟨rfl,?_⟩))
  exact leaf rfl (.bool _)
def oE(x y:fe):Bool:=x.nm==y.nm&&(x.kd==y.kd&&x.nn==y.nn)
theorem Lf{n k:Nat}{g h:Nat->SV}{a b:Nat->fe}(hu:n<=100000)(hg: ∀i,i<n->g i=jN (a i))(hh: ∀i,i<k->h i=jN (b i)):
  aj Tryz.prog 37 [.dm 3 n g,.dm 3 k h] (.bool (n==k&&lp (fun i=>oE (a i) (b i)) n)):=by
 refine bQ (kE (.dm _ _ _) (.dm _ _ _)) (L4.call mixed rfl ?_);by_cases hl:n=k
 ·subst hl
  have h1:((n:Int)!=(n:Int))=false:=by simp
  rw[show (n==n)=true from beq_self_eq_true n,Bool.true_and];generalize hq:(fun i=>oE (a i) (b i))=q;iterate 20 all_goals ((try conv=>whnf);try first|(with_reducible first|refine zY ?_|refine zN ?_|refine zT ?_|refine br (fun _=> ?_) (fun _=> ?_)|refine⟨rfl,?_⟩))
  refine ig (σ:={i:Nat // i<=n/\ ∀j,j<i->q j=true}) (fun y=>[(0,.dm 3 n g),(1,.dm 3 n h),(4,.bool false),(10,.bool false),(12,.int .i64 (n:Int)),(13,.int .i64 ((y.1:Nat):Int))])
   (fun _=>⟨0,[]⟩) (fun y=>n-y.1) (fun _=>0) (fun _=>Nat.le_refl 0) ?_ ⟨0,Nat.zero_le _,fun _ h=>absurd h (Nat.not_lt_zero _)⟩
  rintro⟨i,hi,hall⟩;dsimp only;have e7:IntKind.i64.wrap ((i:Int)+1)=((i+1:Nat):Int):=bN (by omega);have et:=Int.toNat_natCast i;by_cases hil:i<n
  ·have hd:decide ((i:Int)<(n:Int))=true:=decide_eq_true (by omega)
   have hb:(decide (0<=(i:Int))&&decide ((i:Int)<(n:Int)))=true:=by simp only[Bool.and_eq_true,decide_eq_true_eq];omega
   have ea:=hg i hil;have eb:=hh i hil;rw[<- et]at ea eb;have F0:q i=(oE (a i) (b i)):=by rw[<- hq]
   rw[<- et]at F0;cases hU:(fun i=>oE (a i) (b i)) (i:Int).toNat with
   |false=>
    dsimp only at hU;rw[hU,et]at F0;have hne:(!((a (i:Int).toNat).nm==(b (i:Int).toNat).nm&&((a (i:Int).toNat).kd==(b (i:Int).toNat).kd&&(a (i:Int).toNat).nn==(b (i:Int).toNat).nn)))=true:=by unfold oE at hU;rw[hU];rfl
    iterate 80 all_goals ((try conv=>whnf);try first|(with_reducible first|refine zY ?_|refine zN ?_|refine zT ?_|refine br (fun _=> ?_) (fun _=> ?_)|refine⟨rfl,?_⟩)|(rewrite [ea])|(rewrite [eb]))
    exact leaf (by rw[fY hil F0]) (.bool _)
   |true=>
    dsimp only at hU;rw[hU,et]at F0;have hne:(!((a (i:Int).toNat).nm==(b (i:Int).toNat).nm&&((a (i:Int).toNat).kd==(b (i:Int).toNat).kd&&(a (i:Int).toNat).nn==(b (i:Int).toNat).nn)))=false:=by unfold oE at hU;rw[hU];rfl
    iterate 80 all_goals ((try conv=>whnf);try first|(with_reducible first|refine zY ?_|refine zN ?_|refine zT ?_|refine br (fun _=> ?_) (fun _=> ?_)|refine⟨rfl,?_⟩)|(rewrite [ea])|(rewrite [eb]))
    exact⟨⟨i+1,hil,fun j hj=>by
     rcases(by omega:j<i\/j=i)with h|rfl
     ·exact hall j h
     ·exact F0⟩,by dsimp only;omega,by rw[e7],rfl⟩
  ·have hd:decide ((i:Int)<(n:Int))=false:=decide_eq_false (by omega)
   obtain rfl:i=n:=by omega
   iterate 20 all_goals ((try conv=>whnf);try first|(with_reducible first|refine zY ?_|refine zN ?_|refine zT ?_|refine br (fun _=> ?_) (fun _=> ?_)|refine⟨rfl,?_⟩))
   exact leaf (by rw[gP hall]) (.bool _)
 ·have h1:((n:Int)!=(k:Int))=true:=bne_iff_ne.2 (by omega)
  rw[show (n==k)=false from beq_eq_false_iff_ne.2 hl,Bool.false_and];iterate 20 all_goals ((try conv=>whnf);try first|(with_reducible first|refine zY ?_|refine zN ?_|refine zT ?_|refine br (fun _=> ?_) (fun _=> ?_)|refine⟨rfl,?_⟩))
  exact leaf rfl (.bool _)
theorem qq(x y:Ex)(hs:ct x=true):aj Tryz.prog 18 [.agg (Qv x),.agg (Qv y)] (.bool (fD x y)):=by
 rw[<- Js,<-Js];exact G2 _ x y (Nat.le_refl _) hs
def sN(x y:CC):Bool:=x.all==y.all&&x.nm==y.nm&&fD x.x y.x
theorem G3(x y:CC)(hs:ct x.x=true):aj Tryz.prog 43 [sU x,sU y] (.bool (sN x y)):=by
 have ca:=qq x.x y.x hs;refine bQ (kE (kZ x) (kZ y)) (L9.call mixed rfl ?_);unfold sN;cases h0:(x.all==y.all)with
 |false=>
  iterate 40 all_goals ((try conv=>whnf);try first|(with_reducible first|refine zY ?_|refine zN ?_|refine zT ?_|refine br (fun _=> ?_) (fun _=> ?_)|refine⟨rfl,?_⟩))
  exact leaf (by simp) (.bool _)
 |true=>
  cases h1:(x.nm==y.nm)with
  |false=>
   iterate 40 all_goals ((try conv=>whnf);try first|(with_reducible first|refine zY ?_|refine zN ?_|refine zT ?_|refine br (fun _=> ?_) (fun _=> ?_)|refine⟨rfl,?_⟩))
   exact leaf (by simp) (.bool _)
  |true=>
   iterate 40 all_goals ((try conv=>whnf);try first|(with_reducible first|refine zY ?_|refine zN ?_|refine zT ?_|refine br (fun _=> ?_) (fun _=> ?_)|refine⟨rfl,?_⟩|refine aj.call (ca) ?_))
   exact leaf (by simp) (.bool _)
def sO(x y:Src):Bool:=x.tb==y.tb&&x.nm==y.nm&&fD x.vl y.vl
theorem G4(x y:Src)(hs:ct x.vl=true):aj Tryz.prog 45 [rC x,rC y] (.bool (sO x y)):=by
 have ca:=qq x.vl y.vl hs;refine bQ (kE (ld x) (ld y)) (Mb.call mixed rfl ?_);unfold sO;cases h0:(x.tb==y.tb)with
 |false=>
  iterate 40 all_goals ((try conv=>whnf);try first|(with_reducible first|refine zY ?_|refine zN ?_|refine zT ?_|refine br (fun _=> ?_) (fun _=> ?_)|refine⟨rfl,?_⟩))
  exact leaf (by simp) (.bool _)
 |true=>
  cases h1:(x.nm==y.nm)with
  |false=>
   iterate 40 all_goals ((try conv=>whnf);try first|(with_reducible first|refine zY ?_|refine zN ?_|refine zT ?_|refine br (fun _=> ?_) (fun _=> ?_)|refine⟨rfl,?_⟩))
   exact leaf (by simp) (.bool _)
  |true=>
   iterate 40 all_goals ((try conv=>whnf);try first|(with_reducible first|refine zY ?_|refine zN ?_|refine zT ?_|refine br (fun _=> ?_) (fun _=> ?_)|refine⟨rfl,?_⟩|refine aj.call (ca) ?_))
   exact leaf (by simp) (.bool _)
def sP(x y:Ord):Bool:=x.desc==y.desc&&fD x.x y.x
theorem G5(x y:Ord)(hs:ct x.x=true):aj Tryz.prog 47 [CD x,CD y] (.bool (sP x y)):=by
 have ca:=qq x.x y.x hs;refine bQ (kE (lf x) (lf y)) (Rx.call mixed rfl ?_);unfold sP;cases h0:(x.desc==y.desc)with
 |false=>
  iterate 40 all_goals ((try conv=>whnf);try first|(with_reducible first|refine zY ?_|refine zN ?_|refine zT ?_|refine br (fun _=> ?_) (fun _=> ?_)|refine⟨rfl,?_⟩))
  exact leaf (by simp) (.bool _)
 |true=>
  iterate 40 all_goals ((try conv=>whnf);try first|(with_reducible first|refine zY ?_|refine zN ?_|refine zT ?_|refine br (fun _=> ?_) (fun _=> ?_)|refine⟨rfl,?_⟩|refine aj.call (ca) ?_))
  exact leaf (by simp) (.bool _)
def sQ(x y:K0):Bool:=x.nm==y.nm&&x.slot==y.slot&&fD x.x y.x
theorem G6(x y:K0)(hs:ct x.x=true):aj Tryz.prog 49 [CF x,CF y] (.bool (sQ x y)):=by
 have ca:=qq x.x y.x hs;refine bQ (kE (sK x) (sK y)) (Ry.call mixed rfl ?_);unfold sQ;cases h0:(x.nm==y.nm)with
 |false=>
  iterate 40 all_goals ((try conv=>whnf);try first|(with_reducible first|refine zY ?_|refine zN ?_|refine zT ?_|refine br (fun _=> ?_) (fun _=> ?_)|refine⟨rfl,?_⟩))
  exact leaf (by simp) (.bool _)
 |true=>
  cases h1:(x.slot==y.slot)with
  |false=>
   iterate 40 all_goals ((try conv=>whnf);try first|(with_reducible first|refine zY ?_|refine zN ?_|refine zT ?_|refine br (fun _=> ?_) (fun _=> ?_)|refine⟨rfl,?_⟩))
   exact leaf (by simp) (.bool _)
  |true=>
   iterate 40 all_goals ((try conv=>whnf);try first|(with_reducible first|refine zY ?_|refine zN ?_|refine zT ?_|refine br (fun _=> ?_) (fun _=> ?_)|refine⟨rfl,?_⟩|refine aj.call (ca) ?_))
   exact leaf (by simp) (.bool _)
def dM{α:Type}(p:α->α->Bool):List α->List α->Bool
 | [],[]=>true
 |x::r,y::s=>p x y&&dM p r s
 |_,_=>false
theorem Cp{α:Type}(p:α->α->Bool)(d:α): ∀(l r:List α),((l.length==r.length)&&lp (fun i=>p (l.getD i d) (r.getD i d)) l.length)=dM p l r
 | [],[]=>rfl
 | [],_::_=>rfl
 |_::_,[]=>rfl
 |x::l,y::r=>by
  rw[dM,<-Cp p d l r,List.length_cons,List.length_cons,tW];show((l.length+1==r.length+1)&&(p x y&&lp (fun i=>p (l.getD i d) (r.getD i d)) l.length))=_
  have:(l.length+1==r.length+1)=(l.length==r.length):=by
   by_cases h:l.length=r.length
   ·rw[h];simp
   ·rw[beq_eq_false_iff_ne.2 h];exact beq_eq_false_iff_ne.2 (by omega)
  rw[this];cases (l.length==r.length)<;>cases p x y<;>rfl
theorem dU{α:Type}(f:α->SV)(d:α)(l:List α)(i:Nat)(h:i<l.length):(l.map f).getD i .undef=f (l.getD i d):=by
 simp[List.getD,h]
theorem nL{α:Type}(d:α)(l:List α)(i:Nat)(h:i<l.length):l.getD i d∈l:=by
 rw[List.getD,List.getElem?_eq_getElem h];exact List.getElem_mem h
theorem iG{α:Type}(p:α->α->Bool)(f:α->SV)(d:α)(l r:List α):((l.map f).length==(r.map f).length&&lp (fun i=>p (l.getD i d) (r.getD i d)) (l.map f).length)=dM p l r:=by
 rw[List.length_map,List.length_map];exact Cp p d l r
theorem FM(l r:List (List UInt8))(hl:l.length<=1000):aj Tryz.prog 38 [rowOf 1 (l.map SV.str),rowOf 1 (r.map SV.str)] (.bool (dM (fun a b=>a==b) l r)):=by
 have h:=Le (n:=(l.map SV.str).length) (k:=(r.map SV.str).length) (g:=fun i=>(l.map SV.str).getD i .undef) (h:=fun i=>(r.map SV.str).getD i .undef) (a:=fun i=>l.getD i []) (b:=fun i=>r.getD i []) (by rw[List.length_map];omega)
  (fun i hi=>dU _ _ l i (by rw[List.length_map]at hi;exact hi)) (fun i hi=>dU _ _ r i (by rw[List.length_map]at hi;exact hi))
 rw[iG (fun a b=>a==b) SV.str [] l r]at h;exact h
theorem O0(l r:List fe)(hl:l.length<=1000):aj Tryz.prog 37 [rowOf 3 (l.map jN),rowOf 3 (r.map jN)] (.bool (dM oE l r)):=by
 have h:=Lf (n:=(l.map jN).length) (k:=(r.map jN).length) (g:=fun i=>(l.map jN).getD i .undef) (h:=fun i=>(r.map jN).getD i .undef) (a:=fun i=>l.getD i ⟨[],0,false⟩) (b:=fun i=>r.getD i ⟨[],0,false⟩) (by rw[List.length_map];omega)
  (fun i hi=>dU _ _ l i (by rw[List.length_map]at hi;exact hi)) (fun i hi=>dU _ _ r i (by rw[List.length_map]at hi;exact hi))
 rw[iG oE jN ⟨[],0,false⟩ l r]at h;exact h
theorem Lg(l r:List (CC))(hl:l.length<=1000)(hs: ∀x∈l,ct x.x=true):aj Tryz.prog 42 [rowOf 11 (l.map sU),rowOf 11 (r.map sU),.func (.func 43) [] []] (.bool (dM sN l r)):=by
 have h:=Lc (n:=(l.map sU).length) (k:=(r.map sU).length) (g:=fun i=>(l.map sU).getD i .undef) (h:=fun i=>(r.map sU).getD i .undef) (f:=43) (q:=fun i=>sN (l.getD i ⟨false,kQ,[]⟩) (r.getD i ⟨false,kQ,[]⟩)) rfl (by rw[List.length_map];omega)
  (fun i hi=>by rw[List.length_map]at hi;rw[dU _ ⟨false,kQ,[]⟩ l i hi];exact⟨_,_,_,_,_,_,_,_,_,_,_,rfl,rfl⟩) (fun i hi=>by rw[List.length_map]at hi;rw[dU _ ⟨false,kQ,[]⟩ r i hi];exact⟨_,_,_,_,_,_,_,_,_,_,_,rfl,rfl⟩)
  (fun he i hi=>by rw[List.length_map]at hi;rw[List.length_map,List.length_map]at he;rw[dU _ ⟨false,kQ,[]⟩ l i hi,dU _ ⟨false,kQ,[]⟩ r i (by omega)];exact G3 _ _ (hs _ (nL _ l i hi)))
 rw[iG sN sU ⟨false,kQ,[]⟩ l r]at h;exact h
theorem SG(l r:List (Src))(hl:l.length<=1000)(hs: ∀x∈l,ct x.vl=true):aj Tryz.prog 44 [rowOf 11 (l.map rC),rowOf 11 (r.map rC),.func (.func 45) [] []] (.bool (dM sO l r)):=by
 have h:=G0 (n:=(l.map rC).length) (k:=(r.map rC).length) (g:=fun i=>(l.map rC).getD i .undef) (h:=fun i=>(r.map rC).getD i .undef) (f:=45) (q:=fun i=>sO (l.getD i ⟨[],[],kQ⟩) (r.getD i ⟨[],[],kQ⟩)) rfl (by rw[List.length_map];omega)
  (fun i hi=>by rw[List.length_map]at hi;rw[dU _ ⟨[],[],kQ⟩ l i hi];exact⟨_,_,_,_,_,_,_,_,_,_,_,rfl,rfl⟩) (fun i hi=>by rw[List.length_map]at hi;rw[dU _ ⟨[],[],kQ⟩ r i hi];exact⟨_,_,_,_,_,_,_,_,_,_,_,rfl,rfl⟩)
  (fun he i hi=>by rw[List.length_map]at hi;rw[List.length_map,List.length_map]at he;rw[dU _ ⟨[],[],kQ⟩ l i hi,dU _ ⟨[],[],kQ⟩ r i (by omega)];exact G4 _ _ (hs _ (nL _ l i hi)))
 rw[iG sO rC ⟨[],[],kQ⟩ l r]at h;exact h
theorem Lh(l r:List (Ord))(hl:l.length<=1000)(hs: ∀x∈l,ct x.x=true):aj Tryz.prog 46 [rowOf 10 (l.map CD),rowOf 10 (r.map CD),.func (.func 47) [] []] (.bool (dM sP l r)):=by
 have h:=JD (n:=(l.map CD).length) (k:=(r.map CD).length) (g:=fun i=>(l.map CD).getD i .undef) (h:=fun i=>(r.map CD).getD i .undef) (f:=47) (q:=fun i=>sP (l.getD i ⟨kQ,false⟩) (r.getD i ⟨kQ,false⟩)) rfl (by rw[List.length_map];omega)
  (fun i hi=>by rw[List.length_map]at hi;rw[dU _ ⟨kQ,false⟩ l i hi];exact⟨_,_,_,_,_,_,_,_,_,_,rfl,rfl⟩) (fun i hi=>by rw[List.length_map]at hi;rw[dU _ ⟨kQ,false⟩ r i hi];exact⟨_,_,_,_,_,_,_,_,_,_,rfl,rfl⟩)
  (fun he i hi=>by rw[List.length_map]at hi;rw[List.length_map,List.length_map]at he;rw[dU _ ⟨kQ,false⟩ l i hi,dU _ ⟨kQ,false⟩ r i (by omega)];exact G5 _ _ (hs _ (nL _ l i hi)))
 rw[iG sP CD ⟨kQ,false⟩ l r]at h;exact h
theorem O1(l r:List (K0))(hl:l.length<=1000)(hs: ∀x∈l,ct x.x=true):aj Tryz.prog 48 [rowOf 11 (l.map CF),rowOf 11 (r.map CF),.func (.func 49) [] []] (.bool (dM sQ l r)):=by
 have h:=G1 (n:=(l.map CF).length) (k:=(r.map CF).length) (g:=fun i=>(l.map CF).getD i .undef) (h:=fun i=>(r.map CF).getD i .undef) (f:=49) (q:=fun i=>sQ (l.getD i ⟨[],kQ,0⟩) (r.getD i ⟨[],kQ,0⟩)) rfl (by rw[List.length_map];omega)
  (fun i hi=>by rw[List.length_map]at hi;rw[dU _ ⟨[],kQ,0⟩ l i hi];exact⟨_,_,_,_,_,_,_,_,_,_,_,rfl,rfl⟩) (fun i hi=>by rw[List.length_map]at hi;rw[dU _ ⟨[],kQ,0⟩ r i hi];exact⟨_,_,_,_,_,_,_,_,_,_,_,rfl,rfl⟩)
  (fun he i hi=>by rw[List.length_map]at hi;rw[List.length_map,List.length_map]at he;rw[dU _ ⟨[],kQ,0⟩ l i hi,dU _ ⟨[],kQ,0⟩ r i (by omega)];exact G6 _ _ (hs _ (nL _ l i hi)))
 rw[iG sQ CF ⟨[],kQ,0⟩ l r]at h;exact h
theorem SH(l r:List (Ex))(hl:l.length<=1000)(hs: ∀x∈l,ct x=true):aj Tryz.prog 41 [rowOf 9 (l.map sV),rowOf 9 (r.map sV),.func (.func 18) [] []] (.bool (dM fD l r)):=by
 have h:=MG (n:=(l.map sV).length) (k:=(r.map sV).length) (g:=fun i=>(l.map sV).getD i .undef) (h:=fun i=>(r.map sV).getD i .undef) (f:=18) (q:=fun i=>fD (l.getD i kQ) (r.getD i kQ)) rfl (by rw[List.length_map];omega)
  (fun i hi=>by rw[List.length_map]at hi;rw[dU _ kQ l i hi];exact⟨_,_,_,_,_,_,_,_,_,rfl,rfl⟩) (fun i hi=>by rw[List.length_map]at hi;rw[dU _ kQ r i hi];exact⟨_,_,_,_,_,_,_,_,_,rfl,rfl⟩)
  (fun he i hi=>by rw[List.length_map]at hi;rw[List.length_map,List.length_map]at he;rw[dU _ kQ l i hi,dU _ kQ r i (by omega)];exact qq _ _ (hs _ (nL _ l i hi)))
 rw[iG fD sV kQ l r]at h;exact h
def pY(r:List Ex):Bool:=decide (r.length<=1000)&&r.all ct
theorem JE(x y:List Ex)(hs:pY x=true):aj Tryz.prog 40 [CG x,CG y] (.bool (dM fD x y)):=by
 unfold pY at hs;rw[Bool.and_eq_true]at hs;have ca:=SH x y (of_decide_eq_true hs.1) (fun z hz=>List.all_eq_true.1 hs.2 z hz);refine bQ (kE (sL x) (sL y)) (Rw.call mixed rfl ?_);iterate 30 all_goals ((try conv=>whnf);try first|(with_reducible first|refine zY ?_|refine zN ?_|refine zT ?_|refine br (fun _=> ?_) (fun _=> ?_)|refine⟨rfl,?_⟩)|(refine aj.call ca ?_))
 exact leaf rfl (.bool _)
theorem O3(l r:List (List Ex))(hl:l.length<=1000)(hs: ∀x∈l,pY x=true):aj Tryz.prog 39 [rowOf 1 (l.map CG),rowOf 1 (r.map CG),.func (.func 40) [] []] (.bool (dM (dM fD) l r)):=by
 have h:=La (n:=(l.map CG).length) (k:=(r.map CG).length) (g:=fun i=>(l.map CG).getD i .undef) (h:=fun i=>(r.map CG).getD i .undef) (f:=40) (q:=fun i=>(dM fD) (l.getD i []) (r.getD i [])) rfl (by rw[List.length_map];omega)
  (fun i hi=>by rw[List.length_map]at hi;rw[dU _ [] l i hi];exact⟨_,_,rfl⟩) (fun i hi=>by rw[List.length_map]at hi;rw[dU _ [] r i hi];exact⟨_,_,rfl⟩)
  (fun he i hi=>by rw[List.length_map]at hi;rw[List.length_map,List.length_map]at he;rw[dU _ [] l i hi,dU _ [] r i (by omega)];exact JE _ _ (hs _ (nL _ l i hi)))
 rw[iG (dM fD) CG [] l r]at h;exact h
end Go.Proofs.YtbjifmbemdhndaaGreatDoor
