/- Parts of the proof of PParserDepth, one behind the other, with short names. -/
import Derived.Test.YtbjifmbemdhndaaGreatDoorY38
set_option linter.unusedVariables false
set_option linter.unusedSimpArgs false
namespace Go.Proofs.YtbjifmbemdhndaaGreatDoor
open Ab Go.RowKit
set_option maxRecDepth 100000
set_option maxHeartbeats 4000000
attribute [local irreducible] aO bx
theorem QX{v:Va}{tb nm:List UInt8}{slot kd:Int}{a:Ex}(ha:WX a):WX (.mk 18 v tb nm slot kd [a]):=by
 intro b xs hb;have e:ga (.mk 18 v tb nm slot kd [a])=(bg [45]::bZ (kr a) (if(kr a).lit then 9 else 7),(ga a).2):=by rw[fu,cL];rfl
 rw[e]at hb ⊢;have cb:=dw (.mk 18 v tb nm slot kd [a]);rw[aB,gU]at cb ⊢;have cC:=bK (gU a▸aB 18 v tb nm slot kd [a]▸aq (.mk 18 v tb nm slot kd [a]));obtain⟨op',v',pZ,qb,ei,oJ,args'⟩:=a;rw[aB]at cb cC ⊢;by_cases hl:op'=1/\v'.k=2/\0<=v'.i
 ·rw[show (kr (.mk op' v' pZ qb ei oJ args')).lit=true from decide_eq_true hl,if_pos rfl]at hb ⊢
  have q1:(op'==1)=true:=by rw[hl.1];rfl
  have q2:(v'.k==2)=true:=by rw[hl.2.1];rfl
  have q3:decide (0<=v'.i)=true:=decide_eq_true hl.2.2;have co:=bQ ha (least:=9) (b:=b) (xs:=xs++[bg [45]]) (by simp only[List.length_append,List.length_cons,List.length_nil]at hb ⊢;omega);generalize hw:bZ (kr (.mk op' v' pZ qb ei oJ args')) 9=ow at*;rw[aB]at co;simp only[List.length_append,List.length_cons,List.length_nil]at hb;refine WC.of cC (fun hn=> ?_) fun hn g=> ?_
  ·subst hn
   refine bq rfl ?_;iterate 150 all_goals ((try conv=>whnf);try first|(with_reducible first|refine zY ?_|refine zN ?_|refine zT ?_|refine br (fun _=> ?_) (fun _=> ?_)|refine⟨rfl,?_⟩|refine au.call (cb) ?_)|(refine aK ?_)|(refine jl [[45]] (by decide) rfl rfl rfl (by simp) fun g'=> ?_)|(refine co.L rfl rfl rfl (by simp) rfl fun g'=> ?_))
   all_goals refine WN.off ?_ ?_ ?_ (by decide) ?_ rfl rfl
   all_goals first|rfl|(simp;done)|(simp_all;done)|(simp_all[Bool.or_assoc];done)
  ·refine bq rfl ?_
   iterate 150 all_goals ((try conv=>whnf);try first|(with_reducible first|refine zY ?_|refine zN ?_|refine zT ?_|refine br (fun _=> ?_) (fun _=> ?_)|refine⟨rfl,?_⟩|refine au.call (cb) ?_)|(refine aK ?_)|(refine eO [[45]] (by decide) rfl rfl rfl rfl hn rfl rfl rfl (by omega) fun g'=> ?_)|(refine co.L rfl rfl rfl (by simp) rfl fun g'=> ?_))
   all_goals refine WL.off ?_ ?_ ?_ rfl rfl
   all_goals first|rfl|(simp;done)|(simp_all;done)|(simp_all[Bool.or_assoc];done)
 ·rw[show (kr (.mk op' v' pZ qb ei oJ args')).lit=false from decide_eq_false hl,if_neg (by decide)]at hb ⊢
  by_cases h1:op'=1
  ·have q1:(op'==1)=true:=by rw[h1];rfl
   by_cases h2:v'.k=2
   ·have q2:(v'.k==2)=true:=by rw[h2];rfl
    have q3:decide (0<=v'.i)=false:=decide_eq_false fun h3=>hl ⟨h1,h2,h3⟩
    have co:=bQ ha (least:=7) (b:=b) (xs:=xs++[bg [45]]) (by simp only[List.length_append,List.length_cons,List.length_nil]at hb ⊢;omega);generalize hw:bZ (kr (.mk op' v' pZ qb ei oJ args')) 7=ow at*;rw[aB]at co;simp only[List.length_append,List.length_cons,List.length_nil]at hb;refine WC.of cC (fun hn=> ?_) fun hn g=> ?_
    ·subst hn
     refine bq rfl ?_;iterate 150 all_goals ((try conv=>whnf);try first|(with_reducible first|refine zY ?_|refine zN ?_|refine zT ?_|refine br (fun _=> ?_) (fun _=> ?_)|refine⟨rfl,?_⟩|refine au.call (cb) ?_)|(refine aK ?_)|(refine jl [[45]] (by decide) rfl rfl rfl (by simp) fun g'=> ?_)|(refine co.L rfl rfl rfl (by simp) rfl fun g'=> ?_))
     all_goals refine WN.off ?_ ?_ ?_ (by decide) ?_ rfl rfl
     all_goals first|rfl|(simp;done)|(simp_all;done)|(simp_all[Bool.or_assoc];done)
    ·refine bq rfl ?_
     iterate 150 all_goals ((try conv=>whnf);try first|(with_reducible first|refine zY ?_|refine zN ?_|refine zT ?_|refine br (fun _=> ?_) (fun _=> ?_)|refine⟨rfl,?_⟩|refine au.call (cb) ?_)|(refine aK ?_)|(refine eO [[45]] (by decide) rfl rfl rfl rfl hn rfl rfl rfl (by omega) fun g'=> ?_)|(refine co.L rfl rfl rfl (by simp) rfl fun g'=> ?_))
     all_goals refine WL.off ?_ ?_ ?_ rfl rfl
     all_goals first|rfl|(simp;done)|(simp_all;done)|(simp_all[Bool.or_assoc];done)
   ·have q2:(v'.k==2)=false:=beq_eq_false_iff_ne.2 h2
    have co:=bQ ha (least:=7) (b:=b) (xs:=xs++[bg [45]]) (by simp only[List.length_append,List.length_cons,List.length_nil]at hb ⊢;omega);generalize hw:bZ (kr (.mk op' v' pZ qb ei oJ args')) 7=ow at*;rw[aB]at co;simp only[List.length_append,List.length_cons,List.length_nil]at hb;refine WC.of cC (fun hn=> ?_) fun hn g=> ?_
    ·subst hn
     refine bq rfl ?_;iterate 150 all_goals ((try conv=>whnf);try first|(with_reducible first|refine zY ?_|refine zN ?_|refine zT ?_|refine br (fun _=> ?_) (fun _=> ?_)|refine⟨rfl,?_⟩|refine au.call (cb) ?_)|(refine aK ?_)|(refine jl [[45]] (by decide) rfl rfl rfl (by simp) fun g'=> ?_)|(refine co.L rfl rfl rfl (by simp) rfl fun g'=> ?_))
     all_goals refine WN.off ?_ ?_ ?_ (by decide) ?_ rfl rfl
     all_goals first|rfl|(simp;done)|(simp_all;done)|(simp_all[Bool.or_assoc];done)
    ·refine bq rfl ?_
     iterate 150 all_goals ((try conv=>whnf);try first|(with_reducible first|refine zY ?_|refine zN ?_|refine zT ?_|refine br (fun _=> ?_) (fun _=> ?_)|refine⟨rfl,?_⟩|refine au.call (cb) ?_)|(refine aK ?_)|(refine eO [[45]] (by decide) rfl rfl rfl rfl hn rfl rfl rfl (by omega) fun g'=> ?_)|(refine co.L rfl rfl rfl (by simp) rfl fun g'=> ?_))
     all_goals refine WL.off ?_ ?_ ?_ rfl rfl
     all_goals first|rfl|(simp;done)|(simp_all;done)|(simp_all[Bool.or_assoc];done)
  ·have q1:(op'==1)=false:=beq_eq_false_iff_ne.2 h1
   have co:=bQ ha (least:=7) (b:=b) (xs:=xs++[bg [45]]) (by simp only[List.length_append,List.length_cons,List.length_nil]at hb ⊢;omega);generalize hw:bZ (kr (.mk op' v' pZ qb ei oJ args')) 7=ow at*;rw[aB]at co;simp only[List.length_append,List.length_cons,List.length_nil]at hb;refine WC.of cC (fun hn=> ?_) fun hn g=> ?_
   ·subst hn
    refine bq rfl ?_;iterate 150 all_goals ((try conv=>whnf);try first|(with_reducible first|refine zY ?_|refine zN ?_|refine zT ?_|refine br (fun _=> ?_) (fun _=> ?_)|refine⟨rfl,?_⟩|refine au.call (cb) ?_)|(refine aK ?_)|(refine jl [[45]] (by decide) rfl rfl rfl (by simp) fun g'=> ?_)|(refine co.L rfl rfl rfl (by simp) rfl fun g'=> ?_))
    all_goals refine WN.off ?_ ?_ ?_ (by decide) ?_ rfl rfl
    all_goals first|rfl|(simp;done)|(simp_all;done)|(simp_all[Bool.or_assoc];done)
   ·refine bq rfl ?_
    iterate 150 all_goals ((try conv=>whnf);try first|(with_reducible first|refine zY ?_|refine zN ?_|refine zT ?_|refine br (fun _=> ?_) (fun _=> ?_)|refine⟨rfl,?_⟩|refine au.call (cb) ?_)|(refine aK ?_)|(refine eO [[45]] (by decide) rfl rfl rfl rfl hn rfl rfl rfl (by omega) fun g'=> ?_)|(refine co.L rfl rfl rfl (by simp) rfl fun g'=> ?_))
    all_goals refine WL.off ?_ ?_ ?_ rfl rfl
    all_goals first|rfl|(simp;done)|(simp_all;done)|(simp_all[Bool.or_assoc];done)
theorem qc{op:Int}(hop:op=16\/op=15\/op=9\/op=10\/op=11\/op=12\/op=13\/op=14\/op=3\/op=4\/op=8\/op=5\/op=6\/op=7){v:Va}{tb nm:List UInt8}{slot kd:Int}{args:List Ex}(hl:args.length≠2):WX (.mk op v tb nm slot kd args):=by
 intro b xs hb
 have e:ga (.mk op v tb nm slot kd args)=([],true):=by
  rw[fu,cL];have h2:(args.map kr).length≠2:=by rw[List.length_map];exact hl
  unfold Ad;rcases hop with rfl|rfl|rfl|rfl|rfl|rfl|rfl|rfl|rfl|rfl|rfl|rfl|rfl|rfl<;>exact if_pos h2
 rw[e]at hb ⊢;have q:(((eP args).length:Int)!=2)=true:=by rw[show (2:Int)=((2:Nat):Int) from rfl,qT];exact decide_eq_true hl
 rw[aB];have cC:=bK (aB op v tb nm slot kd args▸aq (.mk op v tb nm slot kd args));refine WC.of cC (fun hn=> ?_) fun hn g=> ?_
 ·subst hn
  rcases hop with rfl|rfl|rfl|rfl|rfl|rfl|rfl|rfl|rfl|rfl|rfl|rfl|rfl|rfl
  all_goals
   refine bq rfl ?_;iterate 80 all_goals ((try conv=>whnf);try first|(with_reducible first|refine zY ?_|refine zN ?_|refine zT ?_|refine br (fun _=> ?_) (fun _=> ?_)|refine⟨rfl,?_⟩)|(refine aK ?_))
   exact WN.Nr (by simp) rfl rfl
 ·rcases hop with rfl|rfl|rfl|rfl|rfl|rfl|rfl|rfl|rfl|rfl|rfl|rfl|rfl|rfl
  all_goals
   refine bq rfl ?_;iterate 80 all_goals ((try conv=>whnf);try first|(with_reducible first|refine zY ?_|refine zN ?_|refine zT ?_|refine br (fun _=> ?_) (fun _=> ?_)|refine⟨rfl,?_⟩)|(refine aK ?_))
   exact WL.off (by simp) (by simp) rfl rfl rfl
theorem uW{op:Int}(h1:op≠1)(Nt:op≠2)(FU:op≠21)(JE:op≠16)(JF:op≠15)(h9:op≠9)(h10:op≠10)(h11:op≠11)(h12:op≠12)(JG:op≠13)(JH:op≠14)(h3:op≠3)(h4:op≠4)(h8:op≠8)(h5:op≠5)(h6:op≠6)(h7:op≠7){v:Va}{tb nm:List UInt8}{slot kd:Int}{args:List Ex}(hl:args.length≠1):WX (.mk op v tb nm slot kd args):=by
 intro b xs hb
 have e:ga (.mk op v tb nm slot kd args)=([],true):=by
  rw[fu,cL];have h2:(args.map kr).length≠1:=by rw[List.length_map];exact hl
  have hs:wG op=none:=by unfold wG;simp[*]
  unfold Ad;rw[if_neg h1,if_neg Nt,if_neg FU,hs];exact if_pos h2
 rw[e]at hb ⊢;have q:(((eP args).length:Int)!=1)=true:=by rw[show (1:Int)=((1:Nat):Int) from rfl,qT];exact decide_eq_true hl
 rw[aB];have cC:=bK (aB op v tb nm slot kd args▸aq (.mk op v tb nm slot kd args));have q1:(op==1)=false:=beq_eq_false_iff_ne.2 h1;have p1:(1==op)=false:=beq_eq_false_iff_ne.2 (Ne.symm h1);have q2:(op==2)=false:=beq_eq_false_iff_ne.2 Nt;have p2:(2==op)=false:=beq_eq_false_iff_ne.2 (Ne.symm Nt);have Wp:(op==21)=false:=beq_eq_false_iff_ne.2 FU;have Wq:(21==op)=false:=beq_eq_false_iff_ne.2 (Ne.symm FU);have Wr:(op==16)=false:=beq_eq_false_iff_ne.2 JE;have Ws:(16==op)=false:=beq_eq_false_iff_ne.2 (Ne.symm JE);have Wt:(op==15)=false:=beq_eq_false_iff_ne.2 JF;have Wu:(15==op)=false:=beq_eq_false_iff_ne.2 (Ne.symm JF);have q9:(op==9)=false:=beq_eq_false_iff_ne.2 h9;have p9:(9==op)=false:=beq_eq_false_iff_ne.2 (Ne.symm h9);have UA:(op==10)=false:=beq_eq_false_iff_ne.2 h10;have Wv:(10==op)=false:=beq_eq_false_iff_ne.2 (Ne.symm h10);have Ww:(op==11)=false:=beq_eq_false_iff_ne.2 h11;have Wx:(11==op)=false:=beq_eq_false_iff_ne.2 (Ne.symm h11);have Wy:(op==12)=false:=beq_eq_false_iff_ne.2 h12;have Wz:(12==op)=false:=beq_eq_false_iff_ne.2 (Ne.symm h12);have WA:(op==13)=false:=beq_eq_false_iff_ne.2 JG;have WB:(13==op)=false:=beq_eq_false_iff_ne.2 (Ne.symm JG);have WD:(op==14)=false:=beq_eq_false_iff_ne.2 JH;have WG:(14==op)=false:=beq_eq_false_iff_ne.2 (Ne.symm JH);have q3:(op==3)=false:=beq_eq_false_iff_ne.2 h3;have p3:(3==op)=false:=beq_eq_false_iff_ne.2 (Ne.symm h3);have q4:(op==4)=false:=beq_eq_false_iff_ne.2 h4;have p4:(4==op)=false:=beq_eq_false_iff_ne.2 (Ne.symm h4);have q8:(op==8)=false:=beq_eq_false_iff_ne.2 h8;have p8:(8==op)=false:=beq_eq_false_iff_ne.2 (Ne.symm h8);have q5:(op==5)=false:=beq_eq_false_iff_ne.2 h5;have p5:(5==op)=false:=beq_eq_false_iff_ne.2 (Ne.symm h5);have q6:(op==6)=false:=beq_eq_false_iff_ne.2 h6;have p6:(6==op)=false:=beq_eq_false_iff_ne.2 (Ne.symm h6);have q7:(op==7)=false:=beq_eq_false_iff_ne.2 h7;have p7:(7==op)=false:=beq_eq_false_iff_ne.2 (Ne.symm h7);refine WC.of cC (fun hn=> ?_) fun hn g=> ?_
 ·subst hn
  refine bq rfl ?_;iterate 80 all_goals ((try conv=>whnf);try first|(with_reducible first|refine zY ?_|refine zN ?_|refine zT ?_|refine br (fun _=> ?_) (fun _=> ?_)|refine⟨rfl,?_⟩)|(refine aK ?_))
  exact WN.Nr (by simp) rfl rfl
 ·refine bq rfl ?_
  iterate 80 all_goals ((try conv=>whnf);try first|(with_reducible first|refine zY ?_|refine zN ?_|refine zT ?_|refine br (fun _=> ?_) (fun _=> ?_)|refine⟨rfl,?_⟩)|(refine aK ?_))
  exact WL.off (by simp) (by simp) rfl rfl rfl
theorem JI{op:Int}(h1:op≠1)(Nt:op≠2)(FU:op≠21)(JE:op≠16)(JF:op≠15)(h9:op≠9)(h10:op≠10)(h11:op≠11)(h12:op≠12)(JG:op≠13)(JH:op≠14)(h3:op≠3)(h4:op≠4)(h8:op≠8)(h5:op≠5)(h6:op≠6)(h7:op≠7)(RD:op≠17)(RE:op≠18)(h19:op≠19)(RF:op≠20)(RG:op≠22)(h23:op≠23)(RH:op≠24)(RI:op≠25){v:Va}{tb nm:List UInt8}{slot kd:Int}{a:Ex}:WX (.mk op v tb nm slot kd [a]):=by
 intro b xs hb
 have e:ga (.mk op v tb nm slot kd [a])=([],true):=by
  rw[fu,cL];have hs:wG op=none:=by unfold wG;simp[*]
  unfold Ad;rw[if_neg h1,if_neg Nt,if_neg FU,hs];dsimp only[List.map_cons,List.map_nil,List.length_cons,List.length_nil,Option.isSome_none];simp[*]
 rw[e]at hb ⊢;have cb:=dw (.mk op v tb nm slot kd [a]);rw[aB,gU]at cb ⊢;have cC:=bK (gU a▸aB op v tb nm slot kd [a]▸aq (.mk op v tb nm slot kd [a]));have q1:(op==1)=false:=beq_eq_false_iff_ne.2 h1;have p1:(1==op)=false:=beq_eq_false_iff_ne.2 (Ne.symm h1);have q2:(op==2)=false:=beq_eq_false_iff_ne.2 Nt;have p2:(2==op)=false:=beq_eq_false_iff_ne.2 (Ne.symm Nt);have Wp:(op==21)=false:=beq_eq_false_iff_ne.2 FU;have Wq:(21==op)=false:=beq_eq_false_iff_ne.2 (Ne.symm FU);have Wr:(op==16)=false:=beq_eq_false_iff_ne.2 JE;have Ws:(16==op)=false:=beq_eq_false_iff_ne.2 (Ne.symm JE);have Wt:(op==15)=false:=beq_eq_false_iff_ne.2 JF;have Wu:(15==op)=false:=beq_eq_false_iff_ne.2 (Ne.symm JF);have q9:(op==9)=false:=beq_eq_false_iff_ne.2 h9;have p9:(9==op)=false:=beq_eq_false_iff_ne.2 (Ne.symm h9);have UA:(op==10)=false:=beq_eq_false_iff_ne.2 h10;have Wv:(10==op)=false:=beq_eq_false_iff_ne.2 (Ne.symm h10);have Ww:(op==11)=false:=beq_eq_false_iff_ne.2 h11;have Wx:(11==op)=false:=beq_eq_false_iff_ne.2 (Ne.symm h11);have Wy:(op==12)=false:=beq_eq_false_iff_ne.2 h12;have Wz:(12==op)=false:=beq_eq_false_iff_ne.2 (Ne.symm h12);have WA:(op==13)=false:=beq_eq_false_iff_ne.2 JG;have WB:(13==op)=false:=beq_eq_false_iff_ne.2 (Ne.symm JG);have WD:(op==14)=false:=beq_eq_false_iff_ne.2 JH;have WG:(14==op)=false:=beq_eq_false_iff_ne.2 (Ne.symm JH);have q3:(op==3)=false:=beq_eq_false_iff_ne.2 h3;have p3:(3==op)=false:=beq_eq_false_iff_ne.2 (Ne.symm h3);have q4:(op==4)=false:=beq_eq_false_iff_ne.2 h4;have p4:(4==op)=false:=beq_eq_false_iff_ne.2 (Ne.symm h4);have q8:(op==8)=false:=beq_eq_false_iff_ne.2 h8;have p8:(8==op)=false:=beq_eq_false_iff_ne.2 (Ne.symm h8);have q5:(op==5)=false:=beq_eq_false_iff_ne.2 h5;have p5:(5==op)=false:=beq_eq_false_iff_ne.2 (Ne.symm h5);have q6:(op==6)=false:=beq_eq_false_iff_ne.2 h6;have p6:(6==op)=false:=beq_eq_false_iff_ne.2 (Ne.symm h6);have q7:(op==7)=false:=beq_eq_false_iff_ne.2 h7;have p7:(7==op)=false:=beq_eq_false_iff_ne.2 (Ne.symm h7);have Ye:(op==17)=false:=beq_eq_false_iff_ne.2 RD;have Yf:(op==18)=false:=beq_eq_false_iff_ne.2 RE;have Yg:(op==19)=false:=beq_eq_false_iff_ne.2 h19;have Yh:(op==20)=false:=beq_eq_false_iff_ne.2 RF;have Yi:(op==22)=false:=beq_eq_false_iff_ne.2 RG;have Yj:(op==23)=false:=beq_eq_false_iff_ne.2 h23;have Yk:(op==24)=false:=beq_eq_false_iff_ne.2 RH;have Yl:(op==25)=false:=beq_eq_false_iff_ne.2 RI;refine WC.of cC (fun hn=> ?_) fun hn g=> ?_
 ·subst hn
  refine bq rfl ?_;iterate 110 all_goals ((try conv=>whnf);try first|(with_reducible first|refine zY ?_|refine zN ?_|refine zT ?_|refine br (fun _=> ?_) (fun _=> ?_)|refine⟨rfl,?_⟩|refine au.call (cb) ?_)|(refine aK ?_))
  exact WN.Nr (by simp) rfl rfl
 ·refine bq rfl ?_
  iterate 110 all_goals ((try conv=>whnf);try first|(with_reducible first|refine zY ?_|refine zN ?_|refine zT ?_|refine br (fun _=> ?_) (fun _=> ?_)|refine⟨rfl,?_⟩|refine au.call (cb) ?_)|(refine aK ?_))
  exact WL.off (by simp) (by simp) rfl rfl rfl
theorem AV{op n left:Int}{s:List UInt8}(hop:(op=16/\s=[111,114]/\n=1/\left=1)\/(op=15/\s=[97,110,100]/\n=2/\left=2)){v:Va}{tb nm:List UInt8}{slot kd:Int}{a c:Ex}(ha:WX a)(hc:WX c):WX (.mk op v tb nm slot kd [a,c]):=by
 intro b xs hb
 have e:ga (.mk op v tb nm slot kd [a,c])=(bZ (kr a) left++bg s::bZ (kr c) (n+1),(ga a).2||(ga c).2):=by
  rw[fu,cL];rcases hop with⟨rfl,rfl,rfl,rfl⟩|⟨rfl,rfl,rfl,rfl⟩<;>rfl
 rw[e]at hb ⊢
 have cb:au Tryz.prog 67 [kq (.mk op v tb nm slot kd [a,c])] (.int .i64 n):=by
  have:=dw (.mk op v tb nm slot kd [a,c]);rcases hop with⟨rfl,rfl,rfl,rfl⟩|⟨rfl,rfl,rfl,rfl⟩<;>exact this
 rw[aB,oX]at cb ⊢;have cC:=bK (oX a c▸aB op v tb nm slot kd [a,c]▸aq (.mk op v tb nm slot kd [a,c]));simp only[List.length_append,List.length_cons,List.length_nil]at hb;have co:=bQ ha (least:=left) (b:=b) (xs:=xs) (by omega);have cd:=bQ hc (least:=n+1) (b:=b||(ga a).2) (xs:=xs++bZ (kr a) left++[bg s]) (by simp only[List.length_append,List.length_cons,List.length_nil];omega);generalize bZ (kr a) left=ow at*;generalize bZ (kr c) (n+1)=od at*;obtain⟨op',v',pZ,qb,ei,oJ,args'⟩:=a;obtain⟨JJ,v'',JK,JL,yC,JM,yD⟩:=c;rw[aB]at co cd;rw[aB,aB]at cb cC ⊢;refine WC.of cC (fun hn=> ?_) fun hn g=> ?_
 ·subst hn
  by_cases hz:ow=[]
  ·subst hz
   rcases hop with⟨rfl,rfl,rfl,rfl⟩|⟨rfl,rfl,rfl,rfl⟩
   all_goals
    refine bq rfl ?_;iterate 150 all_goals ((try conv=>whnf);try first|(with_reducible first|refine zY ?_|refine zN ?_|refine zT ?_|refine br (fun _=> ?_) (fun _=> ?_)|refine⟨rfl,?_⟩|refine au.call (cb) ?_)|(refine aK ?_)|(refine co.Z rfl ?_)|(refine jl [_] (by show 1<=1000;decide) rfl rfl rfl (by simp) fun g'=> ?_)|(refine cd.L rfl rfl rfl (by simp) rfl fun g'=> ?_))
    all_goals refine WN.off ?_ ?_ ?_ (by decide) ?_ rfl rfl
    all_goals first|rfl|(simp;done)|(simp_all;done)|(simp_all[Bool.or_assoc];done)
  ·rcases hop with⟨rfl,rfl,rfl,rfl⟩|⟨rfl,rfl,rfl,rfl⟩
   all_goals
    refine bq rfl ?_;iterate 150 all_goals ((try conv=>whnf);try first|(with_reducible first|refine zY ?_|refine zN ?_|refine zT ?_|refine br (fun _=> ?_) (fun _=> ?_)|refine⟨rfl,?_⟩|refine au.call (cb) ?_)|(refine aK ?_)|(refine co.N rfl (by simpa using hz) fun g'=> ?_)|(refine eO [_] (by show 1<=1000;decide) rfl rfl rfl rfl (by simpa using hz) rfl rfl rfl (by simp;omega) fun g'=> ?_)|(refine cd.L rfl rfl rfl (by simp) rfl fun g'=> ?_))
    all_goals refine WN.off ?_ ?_ ?_ (by decide) ?_ rfl rfl
    all_goals first|rfl|(simp;done)|(simp_all;done)|(simp_all[Bool.or_assoc];done)
 ·rcases hop with⟨rfl,rfl,rfl,rfl⟩|⟨rfl,rfl,rfl,rfl⟩
  all_goals
   refine bq rfl ?_;iterate 150 all_goals ((try conv=>whnf);try first|(with_reducible first|refine zY ?_|refine zN ?_|refine zT ?_|refine br (fun _=> ?_) (fun _=> ?_)|refine⟨rfl,?_⟩|refine au.call (cb) ?_)|(refine aK ?_)|(refine co.L rfl rfl rfl hn rfl fun g'=> ?_)|(refine eO [_] (by show 1<=1000;decide) rfl rfl rfl rfl (by simp[hn]) rfl rfl rfl (by simp;omega) fun g'=> ?_)|(refine cd.L rfl rfl rfl (by simp) rfl fun g'=> ?_))
   all_goals refine WL.off ?_ ?_ ?_ rfl rfl
   all_goals first|rfl|(simp;done)|(simp_all;done)|(simp_all[Bool.or_assoc];done)
theorem uX{op n left:Int}{s:List UInt8}(hop:(op=9/\s=[61]/\n=4/\left=5)\/(op=10/\s=[60,62]/\n=4/\left=5)\/(op=11/\s=[60]/\n=4/\left=5)){v:Va}{tb nm:List UInt8}{slot kd:Int}{a c:Ex}(ha:WX a)(hc:WX c):WX (.mk op v tb nm slot kd [a,c]):=by
 intro b xs hb
 have e:ga (.mk op v tb nm slot kd [a,c])=(bZ (kr a) left++bg s::bZ (kr c) (n+1),(ga a).2||(ga c).2):=by
  rw[fu,cL];rcases hop with⟨rfl,rfl,rfl,rfl⟩|⟨rfl,rfl,rfl,rfl⟩|⟨rfl,rfl,rfl,rfl⟩<;>rfl
 rw[e]at hb ⊢
 have cb:au Tryz.prog 67 [kq (.mk op v tb nm slot kd [a,c])] (.int .i64 n):=by
  have:=dw (.mk op v tb nm slot kd [a,c]);rcases hop with⟨rfl,rfl,rfl,rfl⟩|⟨rfl,rfl,rfl,rfl⟩|⟨rfl,rfl,rfl,rfl⟩<;>exact this
 rw[aB,oX]at cb ⊢;have cC:=bK (oX a c▸aB op v tb nm slot kd [a,c]▸aq (.mk op v tb nm slot kd [a,c]));simp only[List.length_append,List.length_cons,List.length_nil]at hb;have co:=bQ ha (least:=left) (b:=b) (xs:=xs) (by omega);have cd:=bQ hc (least:=n+1) (b:=b||(ga a).2) (xs:=xs++bZ (kr a) left++[bg s]) (by simp only[List.length_append,List.length_cons,List.length_nil];omega);generalize bZ (kr a) left=ow at*;generalize bZ (kr c) (n+1)=od at*;obtain⟨op',v',pZ,qb,ei,oJ,args'⟩:=a;obtain⟨JJ,v'',JK,JL,yC,JM,yD⟩:=c;rw[aB]at co cd;rw[aB,aB]at cb cC ⊢;refine WC.of cC (fun hn=> ?_) fun hn g=> ?_
 ·subst hn
  by_cases hz:ow=[]
  ·subst hz
   rcases hop with⟨rfl,rfl,rfl,rfl⟩|⟨rfl,rfl,rfl,rfl⟩|⟨rfl,rfl,rfl,rfl⟩
   all_goals
    refine bq rfl ?_;iterate 150 all_goals ((try conv=>whnf);try first|(with_reducible first|refine zY ?_|refine zN ?_|refine zT ?_|refine br (fun _=> ?_) (fun _=> ?_)|refine⟨rfl,?_⟩|refine au.call (cb) ?_)|(refine aK ?_)|(refine co.Z rfl ?_)|(refine jl [_] (by show 1<=1000;decide) rfl rfl rfl (by simp) fun g'=> ?_)|(refine cd.L rfl rfl rfl (by simp) rfl fun g'=> ?_))
    all_goals refine WN.off ?_ ?_ ?_ (by decide) ?_ rfl rfl
    all_goals first|rfl|(simp;done)|(simp_all;done)|(simp_all[Bool.or_assoc];done)
  ·rcases hop with⟨rfl,rfl,rfl,rfl⟩|⟨rfl,rfl,rfl,rfl⟩|⟨rfl,rfl,rfl,rfl⟩
   all_goals
    refine bq rfl ?_;iterate 150 all_goals ((try conv=>whnf);try first|(with_reducible first|refine zY ?_|refine zN ?_|refine zT ?_|refine br (fun _=> ?_) (fun _=> ?_)|refine⟨rfl,?_⟩|refine au.call (cb) ?_)|(refine aK ?_)|(refine co.N rfl (by simpa using hz) fun g'=> ?_)|(refine eO [_] (by show 1<=1000;decide) rfl rfl rfl rfl (by simpa using hz) rfl rfl rfl (by simp;omega) fun g'=> ?_)|(refine cd.L rfl rfl rfl (by simp) rfl fun g'=> ?_))
    all_goals refine WN.off ?_ ?_ ?_ (by decide) ?_ rfl rfl
    all_goals first|rfl|(simp;done)|(simp_all;done)|(simp_all[Bool.or_assoc];done)
 ·rcases hop with⟨rfl,rfl,rfl,rfl⟩|⟨rfl,rfl,rfl,rfl⟩|⟨rfl,rfl,rfl,rfl⟩
  all_goals
   refine bq rfl ?_;iterate 150 all_goals ((try conv=>whnf);try first|(with_reducible first|refine zY ?_|refine zN ?_|refine zT ?_|refine br (fun _=> ?_) (fun _=> ?_)|refine⟨rfl,?_⟩|refine au.call (cb) ?_)|(refine aK ?_)|(refine co.L rfl rfl rfl hn rfl fun g'=> ?_)|(refine eO [_] (by show 1<=1000;decide) rfl rfl rfl rfl (by simp[hn]) rfl rfl rfl (by simp;omega) fun g'=> ?_)|(refine cd.L rfl rfl rfl (by simp) rfl fun g'=> ?_))
   all_goals refine WL.off ?_ ?_ ?_ rfl rfl
   all_goals first|rfl|(simp;done)|(simp_all;done)|(simp_all[Bool.or_assoc];done)
theorem uY{op n left:Int}{s:List UInt8}(hop:(op=12/\s=[60,61]/\n=4/\left=5)\/(op=13/\s=[62]/\n=4/\left=5)\/(op=14/\s=[62,61]/\n=4/\left=5)){v:Va}{tb nm:List UInt8}{slot kd:Int}{a c:Ex}(ha:WX a)(hc:WX c):WX (.mk op v tb nm slot kd [a,c]):=by
 intro b xs hb
 have e:ga (.mk op v tb nm slot kd [a,c])=(bZ (kr a) left++bg s::bZ (kr c) (n+1),(ga a).2||(ga c).2):=by
  rw[fu,cL];rcases hop with⟨rfl,rfl,rfl,rfl⟩|⟨rfl,rfl,rfl,rfl⟩|⟨rfl,rfl,rfl,rfl⟩<;>rfl
 rw[e]at hb ⊢
 have cb:au Tryz.prog 67 [kq (.mk op v tb nm slot kd [a,c])] (.int .i64 n):=by
  have:=dw (.mk op v tb nm slot kd [a,c]);rcases hop with⟨rfl,rfl,rfl,rfl⟩|⟨rfl,rfl,rfl,rfl⟩|⟨rfl,rfl,rfl,rfl⟩<;>exact this
 rw[aB,oX]at cb ⊢;have cC:=bK (oX a c▸aB op v tb nm slot kd [a,c]▸aq (.mk op v tb nm slot kd [a,c]));simp only[List.length_append,List.length_cons,List.length_nil]at hb;have co:=bQ ha (least:=left) (b:=b) (xs:=xs) (by omega);have cd:=bQ hc (least:=n+1) (b:=b||(ga a).2) (xs:=xs++bZ (kr a) left++[bg s]) (by simp only[List.length_append,List.length_cons,List.length_nil];omega);generalize bZ (kr a) left=ow at*;generalize bZ (kr c) (n+1)=od at*;obtain⟨op',v',pZ,qb,ei,oJ,args'⟩:=a;obtain⟨JJ,v'',JK,JL,yC,JM,yD⟩:=c;rw[aB]at co cd;rw[aB,aB]at cb cC ⊢;refine WC.of cC (fun hn=> ?_) fun hn g=> ?_
 ·subst hn
  by_cases hz:ow=[]
  ·subst hz
   rcases hop with⟨rfl,rfl,rfl,rfl⟩|⟨rfl,rfl,rfl,rfl⟩|⟨rfl,rfl,rfl,rfl⟩
   all_goals
    refine bq rfl ?_;iterate 150 all_goals ((try conv=>whnf);try first|(with_reducible first|refine zY ?_|refine zN ?_|refine zT ?_|refine br (fun _=> ?_) (fun _=> ?_)|refine⟨rfl,?_⟩|refine au.call (cb) ?_)|(refine aK ?_)|(refine co.Z rfl ?_)|(refine jl [_] (by show 1<=1000;decide) rfl rfl rfl (by simp) fun g'=> ?_)|(refine cd.L rfl rfl rfl (by simp) rfl fun g'=> ?_))
    all_goals refine WN.off ?_ ?_ ?_ (by decide) ?_ rfl rfl
    all_goals first|rfl|(simp;done)|(simp_all;done)|(simp_all[Bool.or_assoc];done)
  ·rcases hop with⟨rfl,rfl,rfl,rfl⟩|⟨rfl,rfl,rfl,rfl⟩|⟨rfl,rfl,rfl,rfl⟩
   all_goals
    refine bq rfl ?_;iterate 150 all_goals ((try conv=>whnf);try first|(with_reducible first|refine zY ?_|refine zN ?_|refine zT ?_|refine br (fun _=> ?_) (fun _=> ?_)|refine⟨rfl,?_⟩|refine au.call (cb) ?_)|(refine aK ?_)|(refine co.N rfl (by simpa using hz) fun g'=> ?_)|(refine eO [_] (by show 1<=1000;decide) rfl rfl rfl rfl (by simpa using hz) rfl rfl rfl (by simp;omega) fun g'=> ?_)|(refine cd.L rfl rfl rfl (by simp) rfl fun g'=> ?_))
    all_goals refine WN.off ?_ ?_ ?_ (by decide) ?_ rfl rfl
    all_goals first|rfl|(simp;done)|(simp_all;done)|(simp_all[Bool.or_assoc];done)
 ·rcases hop with⟨rfl,rfl,rfl,rfl⟩|⟨rfl,rfl,rfl,rfl⟩|⟨rfl,rfl,rfl,rfl⟩
  all_goals
   refine bq rfl ?_;iterate 150 all_goals ((try conv=>whnf);try first|(with_reducible first|refine zY ?_|refine zN ?_|refine zT ?_|refine br (fun _=> ?_) (fun _=> ?_)|refine⟨rfl,?_⟩|refine au.call (cb) ?_)|(refine aK ?_)|(refine co.L rfl rfl rfl hn rfl fun g'=> ?_)|(refine eO [_] (by show 1<=1000;decide) rfl rfl rfl rfl (by simp[hn]) rfl rfl rfl (by simp;omega) fun g'=> ?_)|(refine cd.L rfl rfl rfl (by simp) rfl fun g'=> ?_))
   all_goals refine WL.off ?_ ?_ ?_ rfl rfl
   all_goals first|rfl|(simp;done)|(simp_all;done)|(simp_all[Bool.or_assoc];done)
end Go.Proofs.YtbjifmbemdhndaaGreatDoor
