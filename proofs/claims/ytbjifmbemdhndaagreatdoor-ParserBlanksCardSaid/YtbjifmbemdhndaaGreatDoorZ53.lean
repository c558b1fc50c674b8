/- Parts of the proof of PParserBlanks, one behind the other, with short names. -/
import Derived.Test.YtbjifmbemdhndaaGreatDoorZ21
import Derived.Test.YtbjifmbemdhndaaGreatDoorZ50
import Derived.Test.YtbjifmbemdhndaaGreatDoorZ52
import Derived.Test.YtbjifmbemdhndaaGreatDoorZ19
import Derived.Test.YtbjifmbemdhndaaGreatDoorProg
import Derived.KernelRfl
set_option linter.unusedVariables false
set_option linter.unusedSimpArgs false
namespace Go.Proofs.YtbjifmbemdhndaaGreatDoor
open Ab Go.RowKit
set_option maxRecDepth 100000
set_option maxHeartbeats 4000000
attribute [local irreducible] bB cH mq mL
theorem tZ{s:List UInt8}:aj Tryz.prog 4 [.str s] (.bool true):=by
 refine bQ (cZ (.str _)) (Uf.call mixed rfl ?_);have lives:=any;by_cases h4:4000<s.length
 ·have q1:decide ((4000:Int)<(s.length:Int))=true:=decide_eq_true (by omega)
  iterate 12 all_goals ((try conv=>whnf);try first|(with_reducible first|refine zY ?_|refine zN ?_|refine zT ?_|refine br (fun _=> ?_) (fun _=> ?_)|refine⟨rfl,?_⟩|refine aj.call (lives) ?_))
  exact leaf rfl (.bool _)
 have q1:decide ((4000:Int)<(s.length:Int))=false:=decide_eq_false (by omega);have hl:=Fw (s:=s) (by omega);have Ts:=mF s.length s 0;have hp:=rE (s:=s) (by omega);unfold wW at hp;cases hL:xC s with
 |error e=>
  obtain⟨e,a⟩:=e;rw[hL]at hl hp;dsimp only at hp;have he:=oe s.length s 0 e a hL
  have q2:((fun q=>e==0&&q) ((a:Int)==0))=false:=by
   have:(e==0)=false:=by rw[beq_eq_false_iff_ne];exact he
   simp[this]
  have q3:(!(fun q=>e==0&&q) ((a:Int)==0))=true:=by rw[q2];rfl
  have q4:((fun q=>e==e&&q) ((a:Int)==(a:Int)))=true:=by simp
  iterate 34 all_goals ((try conv=>whnf);try first|(with_reducible first|refine zY ?_|refine zN ?_|refine zT ?_|refine br (fun _=> ?_) (fun _=> ?_)|refine⟨rfl,?_⟩|refine aj.call (lives) ?_|refine aj.call (hl) ?_|refine aj.call (hp) ?_)|(refine kJ ?_))
  exact leaf (congrArg SV.bool q4) (.bool _)
 |ok l=>
  rw[hL]at hl hp;dsimp only at hp;cases l with
  |nil=>
   have Qx:=rE (s:=[]) (by simp);unfold wW at Qx;rw[show xC []= .ok [] from rfl]at Qx;dsimp only at Qx;have cs:=w6 (l:=[]) (r:=[]) rfl s.length ([]:List UInt8).length;have hq:=rG (l:=[]) (r:=[]) rfl s.length ([]:List UInt8).length;rw[<- hq.1]at Qx cs;rw[show (eL [] ([]:List UInt8).length).2.1=(eL [] s.length).2.1 from hq.2.symm]at Qx;have q5:((eL [] s.length).2.1==(eL [] s.length).2.1)=true:=by simp
   iterate 80 all_goals ((try conv=>whnf);try first|(with_reducible first|refine zY ?_|refine zN ?_|refine zT ?_|refine br (fun _=> ?_) (fun _=> ?_)|refine⟨rfl,?_⟩|refine gu.succ ?_|refine aj.call (lives) ?_|refine aj.call (hl) ?_|refine aj.call (hp) ?_|refine aj.call (Qx) ?_|refine aj.call (cs) ?_)|(refine kJ ?_)|with_reducible refine fS 1 ?_)
   exact leaf rfl (.bool _)
  |cons x l=>
   have hX:=Ts (x::l) (Nat.le_refl _) hL;iterate 24 all_goals ((try conv=>whnf);try first|(with_reducible first|refine zY ?_|refine zN ?_|refine zT ?_|refine br (fun _=> ?_) (fun _=> ?_)|refine⟨rfl,?_⟩|refine aj.call (lives) ?_|refine aj.call (hl) ?_)|(refine kJ ?_))
   have hlen:=yJ hX;generalize hxl:x::l=L at hX hlen hp;have Zd:0<L.length:=by rw[<- hxl];simp
   refine pI (σ:={i:Nat // i<=L.length}) (fun y=>[(0,SV.str s),(2,SV.bool false),(16,SV.bool false),(19,SV.bool false),(4,SV.ref 0 0 0 0),(3,Gz L),(27,SV.bool false),(7,SV.str (eH s L [10,32] y.1)),(8,SV.int IntKind.i64 y.1)])
    (fun _=>⟨1,[(0,.vec 0 2 [wG 0 0] ⟨false,some 33⟩)]⟩) (fun y=>L.length-y.1) ?_ ⟨0,by omega⟩
   rintro⟨i,hi⟩;dsimp only;have e7:IntKind.i64.wrap ((i:Int)+1)=((i+1:Nat):Int):=by rw[w8 (by omega) (by omega)];omega
   have et:=Int.toNat_natCast i;have CW:=yB (bs:=[10,32]) hX i hi;rw[show ([10,32]:List UInt8).length=2 from rfl]at CW;by_cases hil:i<L.length
   ·have hd:decide ((i:Int)<(L.length:Int))=true:=decide_eq_true (by omega)
    obtain⟨o1,o2,o3⟩:=zC hX hil;have Ze:(decide (0<=(i:Int))&&decide ((i:Int)<(L.length:Int)))=true:=by simp only[Bool.and_eq_true,decide_eq_true_eq];omega
    have gi:(L.getD (i:Int).toNat aC).2=oA L i s.length:=by
     rw[et];unfold oA
     simp[List.getD,List.getElem?_eq_getElem hil]
    have both: ∀q:Int,q=((oA L (i+1) s.length:Nat):Int)->
      (decide (0<=((L.getD (i:Int).toNat aC).2:Int))&&decide (((L.getD (i:Int).toNat aC).2:Int)<=q)&&decide (q<=(s.length:Int)))=true/\
      List.take (q.toNat-((L.getD (i:Int).toNat aC).2:Int).toNat) (List.drop ((L.getD (i:Int).toNat aC).2:Int).toNat s)=kV s L i:=by
     rintro q rfl;rw[gi];refine⟨by simp only[Bool.and_eq_true,decide_eq_true_eq];omega,?_⟩;rw[Int.toNat_natCast,Int.toNat_natCast];rfl
    by_cases hj:i+1<L.length
    ·have mc:decide (IntKind.i64.wrap ((i:Int)+1)<(L.length:Int))=true:=decide_eq_true (by rw[e7];omega)
     have Qr:(decide (0<=IntKind.i64.wrap ((i:Int)+1))&&decide (IntKind.i64.wrap ((i:Int)+1)<(L.length:Int)))=true:=by rw[e7];simp only[Bool.and_eq_true,decide_eq_true_eq];omega
     obtain⟨YM,ow⟩:=both ((L.getD (IntKind.i64.wrap ((i:Int)+1)).toNat aC).2:Int) (by
      rw[e7,Int.toNat_natCast];unfold oA
      simp[List.getD,List.getElem?_eq_getElem hj])
     by_cases hk:(L.getD i aC).1.k=1
     ·have hkk:((L.getD (i:Int).toNat aC).1.k==1)=true:=by rw[et];simpa using hk
      have cu:=uL (s:=kV s L i) (by omega) (yA hX hil hk);rw[<- ow]at cu;have k1:decide ((eH s L [10,32] i).length+((List.take (((L.getD (IntKind.i64.wrap ((i:Int)+1)).toNat aC).2:Int).toNat-((L.getD (i:Int).toNat aC).2:Int).toNat) (List.drop ((L.getD (i:Int).toNat aC).2:Int).toNat s)).map uz).length<=9223372036854775807)=true:=decide_eq_true (by rw[ow,List.length_map];omega);have k2:decide ((eH s L [10,32] i++(List.take (((L.getD (IntKind.i64.wrap ((i:Int)+1)).toNat aC).2:Int).toNat-((L.getD (i:Int).toNat aC).2:Int).toNat) (List.drop ((L.getD (i:Int).toNat aC).2:Int).toNat s)).map uz).length+([10,32]:List UInt8).length<=9223372036854775807)=true:=decide_eq_true (by rw[ow,List.length_append,List.length_map,show([10,32]:List UInt8).length=2 from rfl];omega);have es:eH s L [10,32] (i+1)=eH s L [10,32] i++(List.take (((L.getD (IntKind.i64.wrap ((i:Int)+1)).toNat aC).2:Int).toNat-((L.getD (i:Int).toNat aC).2:Int).toNat) (List.drop ((L.getD (i:Int).toNat aC).2:Int).toNat s)).map uz++[10,32]:=by rw[ow,List.append_assoc];exact congrArg (fun z=>eH s L [10,32] i++(z++[10,32])) (if_pos hk)
      iterate 60 all_goals ((try conv=>whnf);try first|(with_reducible first|refine zY ?_|refine zN ?_|refine zT ?_|refine br (fun _=> ?_) (fun _=> ?_)|refine⟨rfl,?_⟩|refine aj.call (cu) ?_)|(refine kJ ?_))
      exact⟨⟨i+1,hil⟩,by dsimp only;omega,by rw[es,e7],rfl⟩
     ·have hkk:((L.getD (i:Int).toNat aC).1.k==1)=false:=by rw[et,beq_eq_false_iff_ne];exact hk
      have k1:decide ((eH s L [10,32] i).length+(List.take (((L.getD (IntKind.i64.wrap ((i:Int)+1)).toNat aC).2:Int).toNat-((L.getD (i:Int).toNat aC).2:Int).toNat) (List.drop ((L.getD (i:Int).toNat aC).2:Int).toNat s)).length<=9223372036854775807)=true:=decide_eq_true (by rw[ow];omega);have k2:decide ((eH s L [10,32] i++List.take (((L.getD (IntKind.i64.wrap ((i:Int)+1)).toNat aC).2:Int).toNat-((L.getD (i:Int).toNat aC).2:Int).toNat) (List.drop ((L.getD (i:Int).toNat aC).2:Int).toNat s)).length+([10,32]:List UInt8).length<=9223372036854775807)=true:=decide_eq_true (by rw[ow,List.length_append,show([10,32]:List UInt8).length=2 from rfl];omega);have es:eH s L [10,32] (i+1)=eH s L [10,32] i++List.take (((L.getD (IntKind.i64.wrap ((i:Int)+1)).toNat aC).2:Int).toNat-((L.getD (i:Int).toNat aC).2:Int).toNat) (List.drop ((L.getD (i:Int).toNat aC).2:Int).toNat s)++[10,32]:=by rw[ow,List.append_assoc];exact congrArg (fun z=>eH s L [10,32] i++(z++[10,32])) (if_neg hk)
      iterate 60 all_goals ((try conv=>whnf);try first|(with_reducible first|refine zY ?_|refine zN ?_|refine zT ?_|refine br (fun _=> ?_) (fun _=> ?_)|refine⟨rfl,?_⟩)|(refine kJ ?_))
      exact⟨⟨i+1,hil⟩,by dsimp only;omega,by rw[es,e7],rfl⟩
    ·have mc:decide (IntKind.i64.wrap ((i:Int)+1)<(L.length:Int))=false:=decide_eq_false (by rw[e7];omega)
     obtain⟨YM,ow⟩:=both (s.length:Int) (by unfold oA;rw[List.getElem?_eq_none (by omega)]);by_cases hk:(L.getD i aC).1.k=1
     ·have hkk:((L.getD (i:Int).toNat aC).1.k==1)=true:=by rw[et];simpa using hk
      have cu:=uL (s:=kV s L i) (by omega) (yA hX hil hk);rw[<- ow]at cu;have k1:decide ((eH s L [10,32] i).length+((List.take ((s.length:Int).toNat-((L.getD (i:Int).toNat aC).2:Int).toNat) (List.drop ((L.getD (i:Int).toNat aC).2:Int).toNat s)).map uz).length<=9223372036854775807)=true:=decide_eq_true (by rw[ow,List.length_map];omega);have k2:decide ((eH s L [10,32] i++(List.take ((s.length:Int).toNat-((L.getD (i:Int).toNat aC).2:Int).toNat) (List.drop ((L.getD (i:Int).toNat aC).2:Int).toNat s)).map uz).length+([10,32]:List UInt8).length<=9223372036854775807)=true:=decide_eq_true (by rw[ow,List.length_append,List.length_map,show([10,32]:List UInt8).length=2 from rfl];omega);have es:eH s L [10,32] (i+1)=eH s L [10,32] i++(List.take ((s.length:Int).toNat-((L.getD (i:Int).toNat aC).2:Int).toNat) (List.drop ((L.getD (i:Int).toNat aC).2:Int).toNat s)).map uz++[10,32]:=by rw[ow,List.append_assoc];exact congrArg (fun z=>eH s L [10,32] i++(z++[10,32])) (if_pos hk)
      iterate 60 all_goals ((try conv=>whnf);try first|(with_reducible first|refine zY ?_|refine zN ?_|refine zT ?_|refine br (fun _=> ?_) (fun _=> ?_)|refine⟨rfl,?_⟩|refine aj.call (cu) ?_)|(refine kJ ?_))
      exact⟨⟨i+1,hil⟩,by dsimp only;omega,by rw[es,e7],rfl⟩
     ·have hkk:((L.getD (i:Int).toNat aC).1.k==1)=false:=by rw[et,beq_eq_false_iff_ne];exact hk
      have k1:decide ((eH s L [10,32] i).length+(List.take ((s.length:Int).toNat-((L.getD (i:Int).toNat aC).2:Int).toNat) (List.drop ((L.getD (i:Int).toNat aC).2:Int).toNat s)).length<=9223372036854775807)=true:=decide_eq_true (by rw[ow];omega);have k2:decide ((eH s L [10,32] i++List.take ((s.length:Int).toNat-((L.getD (i:Int).toNat aC).2:Int).toNat) (List.drop ((L.getD (i:Int).toNat aC).2:Int).toNat s)).length+([10,32]:List UInt8).length<=9223372036854775807)=true:=decide_eq_true (by rw[ow,List.length_append,show([10,32]:List UInt8).length=2 from rfl];omega);have es:eH s L [10,32] (i+1)=eH s L [10,32] i++List.take ((s.length:Int).toNat-((L.getD (i:Int).toNat aC).2:Int).toNat) (List.drop ((L.getD (i:Int).toNat aC).2:Int).toNat s)++[10,32]:=by rw[ow,List.append_assoc];exact congrArg (fun z=>eH s L [10,32] i++(z++[10,32])) (if_neg hk)
      iterate 60 all_goals ((try conv=>whnf);try first|(with_reducible first|refine zY ?_|refine zN ?_|refine zT ?_|refine br (fun _=> ?_) (fun _=> ?_)|refine⟨rfl,?_⟩)|(refine kJ ?_))
      exact⟨⟨i+1,hil⟩,by dsimp only;omega,by rw[es,e7],rfl⟩
   ·have hd:decide ((i:Int)<(L.length:Int))=false:=decide_eq_false (by omega)
    obtain rfl:i=L.length:=by omega
    obtain⟨m,YN,hm2⟩:=Gu (bs:=[10,32]) hX (by decide) (by decide);have YO:oA L L.length s.length=s.length:=by unfold oA;simp
    have hq:=rE (s:=eH s L [10,32] L.length) (by omega);unfold wW at hq;rw[YN]at hq;dsimp only at hq;have cs:=w6 hm2.symm s.length (eH s L [10,32] L.length).length;have pm:=rG hm2.symm s.length (eH s L [10,32] L.length).length;have q5:((eL L s.length).2.1==(eL m (eH s L [10,32] L.length).length).2.1)=true:=by rw[pm.2];simp
    iterate 80 all_goals ((try conv=>whnf);try first|(with_reducible first|refine zY ?_|refine zN ?_|refine zT ?_|refine br (fun _=> ?_) (fun _=> ?_)|refine⟨rfl,?_⟩|refine aj.call (hp) ?_|refine aj.call (hq) ?_|refine aj.call (cs) ?_)|(refine kJ ?_))
    exact leaf rfl (.bool _)
end Go.Proofs.YtbjifmbemdhndaaGreatDoor
namespace Go.Proofs.YtbjifmbemdhndaaGreatDoor
open Ab Go.RowKit
theorem i64_in{n:Int}(h:IntKind.i64.min<=n/\n<=IntKind.i64.max): -9223372036854775808<=n/\n<=9223372036854775807:=by
 have e1:IntKind.i64.min= -9223372036854775808:=by decide
 have e2:IntKind.i64.max=9223372036854775807:=by decide
 omega
noncomputable def rdStr:Rd Tryz.prog 9 (List UInt8):=Rd.str Tryz.underlying9 (by kernel_rfl)
end Go.Proofs.YtbjifmbemdhndaaGreatDoor
