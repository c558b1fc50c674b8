/- Parts of the proof of PParserDepth, one behind the other, with short names. -/
import Derived.Test.YtbjifmbemdhndaaGreatDoorY22
import Derived.Test.YtbjifmbemdhndaaGreatDoorY46
import Derived.Test.YtbjifmbemdhndaaGreatDoorY48
import Derived.Test.YtbjifmbemdhndaaGreatDoorY19
import Derived.Test.YtbjifmbemdhndaaGreatDoorProg
import Derived.KernelRfl
set_option linter.unusedVariables false
set_option linter.unusedSimpArgs false
namespace Go.Proofs.YtbjifmbemdhndaaGreatDoor
open Ab Go.RowKit
set_option maxRecDepth 100000
set_option maxHeartbeats 4000000
attribute [local irreducible] aO bx
@[reducible] def JX (l:List Int):SV:= .eR 1 l.length fun i=> .int .i64 (l.getD i 0)
def kd(n:Int):Nat:=if n.tmod 3=0 then 0 else if n.tmod 3=1\/n.tmod 3= -1 then 1 else 2
theorem mR{l:List Int}{i:Nat}(h:i<l.length):(l.map kd).take (i+1)=(l.map kd).take i++[kd (l.getD i 0)]:=by
 rw[List.take_add_one];simp[List.getD,h]
theorem oD(a b:List Nat):bO (a++b)=bO a++bO b:=List.flatMap_append
theorem FM(k:Nat):(uz k).length<=6:=by
 match k with
 |0=>decide
 |1=>decide
 |k+2=>exact(by decide:6<=6)
theorem xh: ∀ks:List Nat,(bO ks).length<=6*ks.length
 | []=>Nat.le_refl _
 |k::r=>by
  have:=xh r;have:=FM k;have e:bO (k::r)=uz k++bO r:=rfl;rw[e,List.length_append,List.length_cons];omega
theorem u7: ∀n,(fk n).length=2*n
 |0=>rfl
 |n+1=>by rw[fk,List.length_append,u7 n];simp;omega
theorem qW: ∀(a b:List Nat),cz (a++b)=cz a+cz b
 | [],b=>by simp[cz]
 |k::a,b=>by rw[List.cons_append,cz,cz,qW a b];omega
theorem u9: ∀ks:List Nat,ks.length<=cz ks/\cz ks<=2*ks.length/\(cz ks=ks.length-> ∀k∈ks,gT k=1)
 | []=>⟨Nat.le_refl _,Nat.le_refl _,fun _ k h=>by cases h⟩
 |k::r=>by
  obtain⟨h1,h2,h3⟩:=u9 r;have hk:1<=gT k/\gT k<=2:=by unfold gT;split<;>decide
  refine⟨by simp only[cz,List.length_cons];omega,by simp only[cz,List.length_cons];omega,fun h q hq=> ?_⟩;simp only[cz,List.length_cons]at h;rcases List.mem_cons.1 hq with rfl|hq
  ·omega
  ·exact h3 (by omega) q hq
theorem xj(ks:List Nat)(m:Nat):(cz ks<=40->kn (bI 0 (cy ks)) m=(kO ks,0,0))/\
  (¬ cz ks<=40-> ∃p,kn (bI 0 (cy ks)) m=(xY,241,p)/\(cz ks=ks.length->p=(bO (ks.take 40)).length)):=by
 have hT: ∀j,aX (bI 0 (cy ks)) j=(cy ks).getD j ⟨0,[],0⟩:=fun j=>by
  show((bI 0 (cy ks)).getD j aH).1=_;have:=iT (cy ks) 0;have hm:((bI 0 (cy ks)).map (·.1))[j]? =(cy ks)[j]? :=by rw[this]
  rw[List.getElem?_map]at hm;rw[List.getD,List.getD,<-hm];cases (bI 0 (cy ks))[j]? <;>rfl
 have hlen:(bI 0 (cy ks)).length=(cy ks).length:=by have:=congrArg List.length (iT (cy ks) 0);rwa[List.length_map]at this
 have ha:Bg (aX (bI 0 (cy ks))) 0 (cy ks):=fun j hj=>by rw[Nat.zero_add,hT,List.getD,List.getD,List.getElem?_eq_getElem hj];rfl
 have hs:Stop (aX (bI 0 (cy ks)) (0+(cy ks).length)):=by rw[Nat.zero_add,hT,List.getD,List.getElem?_eq_none (Nat.le_refl _)];exact Ks
 have h:=(th ha hs (qD (bB:=sM cN) (n:=(bI 0 (cy ks)).length) ks 40 0 ha)).2;unfold pP at h;constructor
 ·intro hd
  rw[if_pos hd,Nat.zero_add]at h;unfold kn;rw[h];dsimp only;rw[if_neg (by rw[hlen];omega)]
 ·intro hd
  rw[if_neg hd]at h;obtain⟨j,h1,h2⟩:=h;refine⟨_,by unfold kn;rw[h1],fun he=> ?_⟩;obtain⟨p1,p2⟩:=B6 ks 40;rw[h2 ((u9 ks).2.2 he),Nat.zero_add,<-p1];show eN _ _ _=_;unfold eN;rw[if_pos (by rw[hlen];exact p2)];rfl
theorem FN(ms:List Bool)(h:ms.length<=40):w9 (di (tM ms))= .aN [kq (uA ms),l7 0 0]:=by
 have hT: ∀j,aX (bI 0 (tM ms)) j=(tM ms).getD j ⟨0,[],0⟩:=fun j=>by
  show((bI 0 (tM ms)).getD j aH).1=_;have:=iT (tM ms) 0;have hm:((bI 0 (tM ms)).map (·.1))[j]? =(tM ms)[j]? :=by rw[this]
  rw[List.getElem?_map]at hm;rw[List.getD,List.getD,<-hm];cases (bI 0 (tM ms))[j]? <;>rfl
 have hlen:(bI 0 (tM ms)).length=(tM ms).length:=by have:=congrArg List.length (iT (tM ms) 0);rwa[List.length_map]at this
 have ha:Bg (aX (bI 0 (tM ms))) 0 (tM ms):=fun j hj=>by rw[Nat.zero_add,hT,List.getD,List.getD,List.getElem?_eq_getElem hj];rfl
 have hs:Stop (aX (bI 0 (tM ms)) (0+(tM ms).length)):=by rw[Nat.zero_add,hT,List.getD,List.getElem?_eq_none (Nat.le_refl _)];exact Ks
 have h:=(B8 (bB:=sM cN) (n:=(bI 0 (tM ms)).length) ms 40 0 ha hs h).2;rw[Nat.zero_add]at h;unfold w9;rw[Mc];dsimp only;unfold kn;rw[h];dsimp only;rw[if_neg (by rw[hlen];omega)];rfl
theorem yI: ∀ms:List Bool,n5 (uA ms)=true
 | []=>rfl
 |true::r=>by rw[uA,kz,n5,jn,jn,yI r];rfl
 |false::r=>by rw[uA,kz,n5,jn,jn,yI r];rfl
mutual
theorem xm: ∀x:Ex,oZ x x=true
 | .mk op v tb nm slot kd args=>by rw[oZ,ve args];simp
theorem ve: ∀l:List Ex,qf l l=true
 | []=>rfl
 |x::r=>by rw[qf,xm x,ve r];rfl
end
theorem Re: ∀x∈[D4,GN,sE,oQ,pN],(cu x).length<=4:=by decide
theorem Ds: ∀ms:List Bool,∀x∈tM ms,x∈[D4,GN,sE,oQ,pN]
 | [],x,hx=>by simp[tM]at hx;subst hx;simp
 |true::r,x,hx=>by
  simp only[tM,List.mem_cons]at hx;rcases hx with rfl|hx
  ·simp
  ·exact Ds r x hx
 |false::r,x,hx=>by
  simp only[tM,List.mem_cons,List.mem_append,List.not_mem_nil,or_false]at hx;rcases hx with rfl|rfl|hx|rfl
  ·simp
  ·simp
  ·exact Ds r x hx
  ·simp
theorem Bd: ∀l:List Tk,(∀ x∈l,(cu x).length<=4)->(di l).length<=5*l.length
 | [],_=>Nat.le_refl _
 | [x],h=>by rw[di];have:=h x (by simp);simp;omega
 |x::y::r,h=>by
  have:=Bd (y::r) (fun z hz=>h z (by simp[hz]));have:=h x (by simp);rw[di,List.length_append,List.length_cons,List.length_cons];omega
theorem Rf(ms:List Bool):tM ms≠[]:=by
 match ms with
 | []=>exact List.cons_ne_nil _ _
 |true::r=>exact List.cons_ne_nil _ _
 |false::r=>exact List.cons_ne_nil _ _
theorem JY(ms:List Bool)(h:ms.length<=40):au Tryz.prog 8 [kq (uA ms)] (.aN [.str (di (tM ms)),.int .i64 0]):=by
 have hl:=B7 ms;have hj:=Bd (tM ms) fun x hx=>Re x (Ds ms x hx)
 exact yH (Md ms) (Rf ms) (tn ms) (by omega) (by omega) (FN ms h) (yI ms) (xm _)
def sZ(ks:List Nat)(i:Nat):Nat:=if 40<i then(bO (ks.take 40)).length else 0
theorem s5{l:List Int}:au Tryz.prog 3 [JX l] (.bool true):=by
 refine bu (bK (.eR ..)) (SH.call mixed rfl ?_);have lives:=any;by_cases h1:100<l.length
 ·have q1:decide ((100:Int)<(l.length:Int))=true:=decide_eq_true (by omega)
  iterate 12 all_goals ((try conv=>whnf);try first|(with_reducible first|refine zY ?_|refine zN ?_|refine zT ?_|refine br (fun _=> ?_) (fun _=> ?_)|refine⟨rfl,?_⟩|refine au.call (lives) ?_))
  exact leaf rfl (.bool _)
 have q1:decide ((100:Int)<(l.length:Int))=false:=decide_eq_false (by omega);iterate 30 all_goals ((try conv=>whnf);try first|(with_reducible first|refine zY ?_|refine zN ?_|refine zT ?_|refine br (fun _=> ?_) (fun _=> ?_)|refine⟨rfl,?_⟩|refine au.call (lives) ?_))
 refine iP (σ:={i:Nat // i<=l.length}) (fun y=>[(0,JX l),(2,SV.bool false),(14,SV.bool false),(17,SV.bool false),(3,SV.str (bO ((l.map kd).take y.1))),(4,SV.str (fk y.1)),(5,SV.int IntKind.i64 (sZ (l.map kd) y.1)),(6,SV.int IntKind.i64 y.1)])
  (fun _=>⟨0,[]⟩) (fun y=>l.length-y.1) ?_ ⟨0,by omega⟩
 rintro⟨i,hi⟩;dsimp only;have e7:IntKind.i64.wrap ((i:Int)+1)=((i+1:Nat):Int):=bL (by omega);have et:=Int.toNat_natCast i;have hal:=xh ((l.map kd).take i);rw[List.length_take,List.length_map]at hal;have Gg:=u7 i;have k2:decide (([32,41]:List UInt8).length+(fk i).length<=9223372036854775807)=true:=decide_eq_true (by rw[Gg];show 2+_<=_;omega);by_cases hil:i<l.length
 ·have hd:decide ((i:Int)<(l.length:Int))=true:=decide_eq_true (by omega)
  have hb:(decide (0<=(i:Int))&&decide ((i:Int)<(l.length:Int)))=true:=by simp only[Bool.and_eq_true,decide_eq_true_eq];omega
  by_cases c0:(l.getD i 0).tmod 3=0
  ·have p0:((l.getD (i:Int).toNat 0).tmod 3==0)=true:=by rw[et,c0];rfl
   have es:bO ((l.map kd).take (i+1))=bO ((l.map kd).take i)++[40,32]:=by rw[mR hil,oD,show kd (l.getD i 0)=0 by exact if_pos c0];rfl
   have k1:decide ((bO ((l.map kd).take i)).length+([40,32]:List UInt8).length<=9223372036854775807)=true:=decide_eq_true (by show _+2<=_;omega);by_cases Dt:i=40
   ·have OL:((i:Int)==40)=true:=by rw[Dt];rfl
    iterate 60 all_goals ((try conv=>whnf);try first|(with_reducible first|refine zY ?_|refine zN ?_|refine zT ?_|refine br (fun _=> ?_) (fun _=> ?_)|refine⟨rfl,?_⟩)|(refine fP ?_))
    exact⟨⟨i+1,hil⟩,by dsimp only;omega,by rw[es,e7,show sZ (l.map kd) (i+1)=(bO ((l.map kd).take i)).length by unfold sZ;rw[if_pos (by omega),Dt]];rfl,rfl⟩
   ·have OL:((i:Int)==40)=false:=by rw[beq_eq_false_iff_ne];omega
    iterate 60 all_goals ((try conv=>whnf);try first|(with_reducible first|refine zY ?_|refine zN ?_|refine zT ?_|refine br (fun _=> ?_) (fun _=> ?_)|refine⟨rfl,?_⟩)|(refine fP ?_))
    exact⟨⟨i+1,hil⟩,by dsimp only;omega,by rw[es,e7,show sZ (l.map kd) (i+1)=sZ (l.map kd) i by unfold sZ;split<;>split<;>omega];rfl,rfl⟩
  have p0:((l.getD (i:Int).toNat 0).tmod 3==0)=false:=by rw[et,beq_eq_false_iff_ne];exact c0
  by_cases c1:(l.getD i 0).tmod 3=1
  ·have p1:((l.getD (i:Int).toNat 0).tmod 3==1)=true:=by rw[et,c1];rfl
   have es:bO ((l.map kd).take (i+1))=bO ((l.map kd).take i)++[40,32,110,111,116,32]:=by rw[mR hil,oD,show kd (l.getD i 0)=1 by unfold kd;rw[if_neg c0,if_pos (.inl c1)]];rfl
   have k1:decide ((bO ((l.map kd).take i)).length+([40,32,110,111,116,32]:List UInt8).length<=9223372036854775807)=true:=decide_eq_true (by show _+6<=_;omega);by_cases Dt:i=40
   ·have OL:((i:Int)==40)=true:=by rw[Dt];rfl
    iterate 60 all_goals ((try conv=>whnf);try first|(with_reducible first|refine zY ?_|refine zN ?_|refine zT ?_|refine br (fun _=> ?_) (fun _=> ?_)|refine⟨rfl,?_⟩)|(refine fP ?_))
    exact⟨⟨i+1,hil⟩,by dsimp only;omega,by rw[es,e7,show sZ (l.map kd) (i+1)=(bO ((l.map kd).take i)).length by unfold sZ;rw[if_pos (by omega),Dt]];rfl,rfl⟩
   ·have OL:((i:Int)==40)=false:=by rw[beq_eq_false_iff_ne];omega
    iterate 60 all_goals ((try conv=>whnf);try first|(with_reducible first|refine zY ?_|refine zN ?_|refine zT ?_|refine br (fun _=> ?_) (fun _=> ?_)|refine⟨rfl,?_⟩)|(refine fP ?_))
    exact⟨⟨i+1,hil⟩,by dsimp only;omega,by rw[es,e7,show sZ (l.map kd) (i+1)=sZ (l.map kd) i by unfold sZ;split<;>split<;>omega];rfl,rfl⟩
  have p1:((l.getD (i:Int).toNat 0).tmod 3==1)=false:=by rw[et,beq_eq_false_iff_ne];exact c1
  by_cases c2:(l.getD i 0).tmod 3= -1
  ·have p2:((l.getD (i:Int).toNat 0).tmod 3== -1)=true:=by rw[et,c2];rfl
   have es:bO ((l.map kd).take (i+1))=bO ((l.map kd).take i)++[40,32,110,111,116,32]:=by rw[mR hil,oD,show kd (l.getD i 0)=1 by unfold kd;rw[if_neg c0,if_pos (.inr c2)]];rfl
   have k1:decide ((bO ((l.map kd).take i)).length+([40,32,110,111,116,32]:List UInt8).length<=9223372036854775807)=true:=decide_eq_true (by show _+6<=_;omega);by_cases Dt:i=40
   ·have OL:((i:Int)==40)=true:=by rw[Dt];rfl
    iterate 60 all_goals ((try conv=>whnf);try first|(with_reducible first|refine zY ?_|refine zN ?_|refine zT ?_|refine br (fun _=> ?_) (fun _=> ?_)|refine⟨rfl,?_⟩)|(refine fP ?_))
    exact⟨⟨i+1,hil⟩,by dsimp only;omega,by rw[es,e7,show sZ (l.map kd) (i+1)=(bO ((l.map kd).take i)).length by unfold sZ;rw[if_pos (by omega),Dt]];rfl,rfl⟩
   ·have OL:((i:Int)==40)=false:=by rw[beq_eq_false_iff_ne];omega
    iterate 60 all_goals ((try conv=>whnf);try first|(with_reducible first|refine zY ?_|refine zN ?_|refine zT ?_|refine br (fun _=> ?_) (fun _=> ?_)|refine⟨rfl,?_⟩)|(refine fP ?_))
    exact⟨⟨i+1,hil⟩,by dsimp only;omega,by rw[es,e7,show sZ (l.map kd) (i+1)=sZ (l.map kd) i by unfold sZ;split<;>split<;>omega];rfl,rfl⟩
  ·have p2:((l.getD (i:Int).toNat 0).tmod 3== -1)=false:=by rw[et,beq_eq_false_iff_ne];exact c2
   have es:bO ((l.map kd).take (i+1))=bO ((l.map kd).take i)++[109,97,120,32,40,32]:=by rw[mR hil,oD,show kd (l.getD i 0)=2 by unfold kd;rw[if_neg c0,if_neg fun h=>h.elim c1 c2]];rfl
   have k1:decide ((bO ((l.map kd).take i)).length+([109,97,120,32,40,32]:List UInt8).length<=9223372036854775807)=true:=decide_eq_true (by show _+6<=_;omega);by_cases Dt:i=40
   ·have OL:((i:Int)==40)=true:=by rw[Dt];rfl
    iterate 60 all_goals ((try conv=>whnf);try first|(with_reducible first|refine zY ?_|refine zN ?_|refine zT ?_|refine br (fun _=> ?_) (fun _=> ?_)|refine⟨rfl,?_⟩)|(refine fP ?_))
    exact⟨⟨i+1,hil⟩,by dsimp only;omega,by rw[es,e7,show sZ (l.map kd) (i+1)=(bO ((l.map kd).take i)).length by unfold sZ;rw[if_pos (by omega),Dt]];rfl,rfl⟩
   ·have OL:((i:Int)==40)=false:=by rw[beq_eq_false_iff_ne];omega
    iterate 60 all_goals ((try conv=>whnf);try first|(with_reducible first|refine zY ?_|refine zN ?_|refine zT ?_|refine br (fun _=> ?_) (fun _=> ?_)|refine⟨rfl,?_⟩)|(refine fP ?_))
    exact⟨⟨i+1,hil⟩,by dsimp only;omega,by rw[es,e7,show sZ (l.map kd) (i+1)=sZ (l.map kd) i by unfold sZ;split<;>split<;>omega];rfl,rfl⟩
 ·have hd:decide ((i:Int)<(l.length:Int))=false:=decide_eq_false (by omega)
  obtain rfl:i=l.length:=by omega
  have k3:decide ((bO ((l.map kd).take l.length)).length+([116,114,117,101]:List UInt8).length<=9223372036854775807)=true:=decide_eq_true (by show _+4<=_;omega);have k4:decide ((bO ((l.map kd).take l.length)++[116,114,117,101]).length+(fk l.length).length<=9223372036854775807)=true:=decide_eq_true (by rw[List.length_append,Gg];show _+4+_<=_;omega);have cx:=xb (s:=bO ((l.map kd).take l.length)++[116,114,117,101]++fk l.length) (by rw[List.length_append,List.length_append,Gg];show _+4+_<=_;omega)
  have hts:bO ((l.map kd).take l.length)++[116,114,117,101]++fk l.length=di (cy (l.map kd)):=by
   have:=wH (l.map kd);rw[List.length_map]at this;rw[List.take_of_length_le (by rw[List.length_map];exact Nat.le_refl _)];exact this
  unfold w9 at cx;rw[show mI (bO ((l.map kd).take l.length)++[116,114,117,101]++fk l.length)= .ok (bI 0 (cy (l.map kd))) by rw[hts];exact GX _]at cx;dsimp only at cx;generalize hM:(bO ((l.map kd).take l.length)++[116,114,117,101]++fk l.length).length=M at cx;cases hR:kn (bI 0 (cy (l.map kd))) M with
  |mk X ep=>
  obtain⟨er,pl⟩:=ep;rw[hR]at cx;dsimp only at cx;obtain⟨op,v,tb,nm,slot,oJ,args⟩:=X;rw[aB]at cx;iterate 60 all_goals ((try conv=>whnf);try first|(with_reducible first|refine zY ?_|refine zN ?_|refine zT ?_|refine br (fun _=> ?_) (fun _=> ?_)|refine⟨rfl,?_⟩|refine au.call (cx) ?_))
  refine iP (σ:={i:Nat // i<=l.length}) (fun y=>[(0,JX l),(2,SV.bool false),(14,SV.bool false),(17,SV.bool false),(3,SV.str (bO ((l.map kd).take l.length))),(4,SV.str (fk l.length)),(5,SV.int IntKind.i64 (sZ (l.map kd) l.length)),(6,SV.int IntKind.i64 l.length),(21,SV.bool false),(7,.ref 0 0 0 0),(8,.ref 1 0 0 0),(9,SV.int IntKind.i64 (cz ((l.map kd).take y.1))),(10,SV.int IntKind.i64 y.1)])
   (fun _=>⟨2,[(1,.vec 0 2 [l7 er pl] ⟨false,some 33⟩),(0,.vec 0 9 [.agg [.int .u8 op,.int .u8 v.k,.int .i64 v.i,.str v.s,.str tb,.str nm,.int .i64 slot,.int .u8 oJ,gF (eP args)]] ⟨false,some 30⟩)]⟩) (fun y=>l.length-y.1) ?_ ⟨0,by omega⟩
  clear hal Gg k2 k3 k4 hd e7 et;rintro⟨i,hi⟩;dsimp only;have e7:IntKind.i64.wrap ((i:Int)+1)=((i+1:Nat):Int):=bL (by omega);have et:=Int.toNat_natCast i;have hdl:=(u9 ((l.map kd).take i)).2.1;rw[List.length_take,List.length_map]at hdl;have e8:IntKind.i64.wrap ((cz ((l.map kd).take i):Int)+1)=((cz ((l.map kd).take i)+1:Nat):Int):=bL (by omega);have e9:IntKind.i64.wrap (((cz ((l.map kd).take i)+1:Nat):Int)+1)=((cz ((l.map kd).take i)+2:Nat):Int):=bL (by omega);by_cases hil:i<l.length
  ·have hd:decide ((i:Int)<(l.length:Int))=true:=decide_eq_true (by omega)
   have hb:(decide (0<=(i:Int))&&decide ((i:Int)<(l.length:Int)))=true:=by simp only[Bool.and_eq_true,decide_eq_true_eq];omega
   by_cases c1:(l.getD i 0).tmod 3=1
   ·have p1:((l.getD (i:Int).toNat 0).tmod 3==1)=true:=by rw[et,c1];rfl
    have hk:kd (l.getD i 0)=1:=by unfold kd;rw[if_neg (by rw[c1];decide),if_pos (.inl c1)]
    have es:cz ((l.map kd).take (i+1))=cz ((l.map kd).take i)+2:=by rw[mR hil,qW];show _+(gT (kd (l.getD i 0))+0)=_;rw[hk];rfl
    iterate 60 all_goals ((try conv=>whnf);try first|(with_reducible first|refine zY ?_|refine zN ?_|refine zT ?_|refine br (fun _=> ?_) (fun _=> ?_)|refine⟨rfl,?_⟩)|(refine fP ?_))
    exact⟨⟨i+1,hil⟩,by dsimp only;omega,by rw[es,e7,e8,e9],rfl⟩
   have p1:((l.getD (i:Int).toNat 0).tmod 3==1)=false:=by rw[et,beq_eq_false_iff_ne];exact c1
   by_cases c2:(l.getD i 0).tmod 3= -1
   ·have p2:((l.getD (i:Int).toNat 0).tmod 3== -1)=true:=by rw[et,c2];rfl
    have hk:kd (l.getD i 0)=1:=by unfold kd;rw[if_neg (by rw[c2];decide),if_pos (.inr c2)]
    have es:cz ((l.map kd).take (i+1))=cz ((l.map kd).take i)+2:=by rw[mR hil,qW];show _+(gT (kd (l.getD i 0))+0)=_;rw[hk];rfl
    iterate 60 all_goals ((try conv=>whnf);try first|(with_reducible first|refine zY ?_|refine zN ?_|refine zT ?_|refine br (fun _=> ?_) (fun _=> ?_)|refine⟨rfl,?_⟩)|(refine fP ?_))
    exact⟨⟨i+1,hil⟩,by dsimp only;omega,by rw[es,e7,e8,e9],rfl⟩
   ·have p2:((l.getD (i:Int).toNat 0).tmod 3== -1)=false:=by rw[et,beq_eq_false_iff_ne];exact c2
    have hk:gT (kd (l.getD i 0))=1:=by
     unfold kd;by_cases c0:(l.getD i 0).tmod 3=0
     ·rw[if_pos c0];rfl
     ·rw[if_neg c0,if_neg fun h=>h.elim c1 c2];rfl
    have es:cz ((l.map kd).take (i+1))=cz ((l.map kd).take i)+1:=by rw[mR hil,qW];show _+(gT (kd (l.getD i 0))+0)=_;rw[hk]
    iterate 60 all_goals ((try conv=>whnf);try first|(with_reducible first|refine zY ?_|refine zN ?_|refine zT ?_|refine br (fun _=> ?_) (fun _=> ?_)|refine⟨rfl,?_⟩)|(refine fP ?_))
    exact⟨⟨i+1,hil⟩,by dsimp only;omega,by rw[es,e7,e8],rfl⟩
  ·have hd:decide ((i:Int)<(l.length:Int))=false:=decide_eq_false (by omega)
   obtain rfl:i=l.length:=by omega
   have ht:(l.map kd).take l.length=l.map kd:=List.take_of_length_le (by rw[List.length_map];exact Nat.le_refl _);rw[ht]at hdl ⊢;by_cases Dt:cz (l.map kd)<=40
   ·have d40:decide ((cz (l.map kd):Int)<=40)=true:=decide_eq_true (by omega)
    have hr:=(xj (l.map kd) M).1 Dt;rw[hR]at hr;simp only[Prod.mk.injEq]at hr;obtain⟨hx,rfl,rfl⟩:=hr;have cp:=JY (mW (l.map kd)) (Nat.le_trans (ou _).1 Dt);rw[<- tj,<-hx,aB]at cp;iterate 60 all_goals ((try conv=>whnf);try first|(with_reducible first|refine zY ?_|refine zN ?_|refine zT ?_|refine br (fun _=> ?_) (fun _=> ?_)|refine⟨rfl,?_⟩|refine au.call (cp) ?_))
    exact leaf rfl (.bool _)
   ·have d40:decide ((cz (l.map kd):Int)<=40)=false:=decide_eq_false (by omega)
    obtain⟨p,hr,hp⟩:=(xj (l.map kd) M).2 Dt;rw[hR]at hr;simp only[Prod.mk.injEq]at hr;obtain⟨hx,rfl,rfl⟩:=hr;by_cases he:cz (l.map kd)=l.length
    ·have qd:((cz (l.map kd):Int)!=(l.length:Int))=false:=by rw[he];simp
     have LQ:=hp (by rw[List.length_map];exact he);have ha:sZ (l.map kd) l.length=(bO ((l.map kd).take 40)).length:=by unfold sZ;rw[if_pos (by omega)]
     have qa:((pl:Int)==(sZ (l.map kd) l.length:Int))=true:=by rw[ha,LQ];simp
     iterate 60 all_goals ((try conv=>whnf);try first|(with_reducible first|refine zY ?_|refine zN ?_|refine zT ?_|refine br (fun _=> ?_) (fun _=> ?_)|refine⟨rfl,?_⟩))
     exact leaf (congrArg SV.bool qa) (.bool _)
    ·have qd:((cz (l.map kd):Int)!=(l.length:Int))=true:=by rw[bne_iff_ne];omega
     iterate 60 all_goals ((try conv=>whnf);try first|(with_reducible first|refine zY ?_|refine zN ?_|refine zT ?_|refine br (fun _=> ?_) (fun _=> ?_)|refine⟨rfl,?_⟩))
     exact leaf rfl (.bool _)
end Go.Proofs.YtbjifmbemdhndaaGreatDoor
namespace Go.Proofs.YtbjifmbemdhndaaGreatDoor
open Ab Go.RowKit
theorem i64_in{n:Int}(h:IntKind.i64.min<=n/\n<=IntKind.i64.max): -9223372036854775808<=n/\n<=9223372036854775807:=by
 have e1:IntKind.i64.min= -9223372036854775808:=by decide
 have e2:IntKind.i64.max=9223372036854775807:=by decide
 omega
noncomputable def Rg:Rd Tryz.prog 3 Int:=(Rd.int (k:= .i64) Tryz.underlying3 (by kernel_rfl)).map id (fun n=>[.int .i64 n]) (fun n=> -9223372036854775808<=n/\n<=9223372036854775807) (fun _=>rfl) (fun _ h=>i64_in h) fun _=>rfl
@[reducible] noncomputable def OM:Rd Tryz.prog 22 (List Int):=Rd.slice Tryz.underlying22 (by kernel_rfl) Rg (by decide) (fun n=> .int .i64 n) (fun _=>rfl) 0
end Go.Proofs.YtbjifmbemdhndaaGreatDoor
