/- Parts of the proof of PParserDepth, one behind the other, with short names. -/
import Derived.Test.YtbjifmbemdhndaaGreatDoorY38
set_option linter.unusedVariables false
set_option linter.unusedSimpArgs false
namespace Go.Proofs.YtbjifmbemdhndaaGreatDoor
open Ab Go.RowKit
set_option maxRecDepth 100000
set_option maxHeartbeats 4000000
attribute [local irreducible] aO bx
theorem QY{v:Va}{tb nm:List UInt8}{slot kd:Int}{a:Ex}(ha:WX a):WX (.mk 22 v tb nm slot kd [a]):=by
 intro b xs hb;have e:ga (.mk 22 v tb nm slot kd [a])=(bg [99,111,117,110,116]::bg [40]::((ga a).1++[bg [41]]),(ga a).2):=by rw[fu,cL];rfl
 rw[e]at hb ⊢;have cb:=dw (.mk 22 v tb nm slot kd [a]);rw[aB,gU]at cb ⊢;have cC:=bK (gU a▸aB 22 v tb nm slot kd [a]▸aq (.mk 22 v tb nm slot kd [a]));simp only[List.length_append,List.length_cons,List.length_nil]at hb;have co:=ha b (xs++[bg [99,111,117,110,116]]++[bg [40]]) (by simp only[List.length_append,List.length_cons,List.length_nil];omega);generalize (ga a).1=ow at*;obtain⟨op',v',pZ,qb,ei,oJ,args'⟩:=a;rw[aB]at co;rw[aB]at cb cC ⊢;refine WC.of cC (fun hn=> ?_) fun hn g=> ?_
 ·subst hn
  refine bq rfl ?_;iterate 80 all_goals ((try conv=>whnf);try first|(with_reducible first|refine zY ?_|refine zN ?_|refine zT ?_|refine br (fun _=> ?_) (fun _=> ?_)|refine⟨rfl,?_⟩|refine au.call (cb) ?_)|(refine aK ?_)|(refine gE ?_))
  refine dx.out 2 (fun _=>[(2,.ref 1 0 0 0),(3,.ref 2 0 0 0)]) (fun g'=>⟨9,[(8,nY g' [bg [99,111,117,110,116]]),(3,.vec 0 1 [.int .i64 1] ⟨false,some 3⟩),(2,.vec 0 9 [.agg [.int .u8 22,.int .u8 v.k,.int .i64 v.i,.str v.s,.str tb,.str nm,.int .i64 slot,.int .u8 kd,gF [.agg [.int .u8 op',.int .u8 v'.k,.int .i64 v'.i,.str v'.s,.str pZ,.str qb,.int .i64 ei,.int .u8 oJ,gF (eP args')]]]] ⟨false,some 30⟩),(1,.vec 0 1 [.ref 0 0 0 0] ⟨false,some 71⟩),(0,mc b (.sl 8 g' 4 0 1 none))]⟩) ?_ fun g'=> ?_
  ·iterate 70 all_goals ((try conv=>whnf);try first|(with_reducible first|refine zY ?_|refine zN ?_|refine zT ?_|refine br (fun _=> ?_) (fun _=> ?_)|refine⟨rfl,?_⟩|refine dI.full ?_)|(refine jl [_] (by show 1<=1000;decide) rfl rfl rfl (by simp) fun g'=> ?_)|(refine And.intro ?_ ?_)|(exact trivial)|(exact⟨_,rfl,⟨rfl,rfl,trivial⟩,rfl,fY ⟨rfl,rfl,rfl,rfl,rfl,trivial⟩⟩)|with_reducible refine cW 6 ?_)
  ·iterate 80 all_goals ((try conv=>whnf);try first|(with_reducible first|refine zY ?_|refine zN ?_|refine zT ?_|refine br (fun _=> ?_) (fun _=> ?_)|refine⟨rfl,?_⟩)|(refine eO [_] (by show 1<=1000;decide) rfl rfl rfl rfl (by simp) rfl rfl rfl (by first|(simp;done)|(simp;omega)) fun g'=> ?_)|(refine co.L rfl rfl rfl (by simp) rfl fun g'=> ?_))
   all_goals refine WN.off ?_ ?_ ?_ (by decide) ?_ rfl rfl
   all_goals first|rfl|(simp;done)|(simp_all;done)|(simp_all[Bool.or_assoc];done)
 ·refine bq rfl ?_
  iterate 80 all_goals ((try conv=>whnf);try first|(with_reducible first|refine zY ?_|refine zN ?_|refine zT ?_|refine br (fun _=> ?_) (fun _=> ?_)|refine⟨rfl,?_⟩|refine au.call (cb) ?_)|(refine aK ?_)|(refine gE ?_))
  refine dx.out 2 (fun _=>[(2,.ref 2 0 0 0),(3,.ref 3 0 0 0)]) (fun g'=>⟨9,[(4,.vec 0 1 [.int .i64 1] ⟨false,some 3⟩),(3,.vec 0 9 [.agg [.int .u8 22,.int .u8 v.k,.int .i64 v.i,.str v.s,.str tb,.str nm,.int .i64 slot,.int .u8 kd,gF [.agg [.int .u8 op',.int .u8 v'.k,.int .i64 v'.i,.str v'.s,.str pZ,.str qb,.int .i64 ei,.int .u8 oJ,gF (eP args')]]]] ⟨false,some 30⟩),(2,.vec 0 1 [.ref 0 0 0 0] ⟨false,some 71⟩),(1,nY g' (xs++[bg [99,111,117,110,116]])),(0,mc b (.sl 1 g' 4 0 (xs++[bg [99,111,117,110,116]]).length none))]⟩) ?_ fun g'=> ?_
  ·iterate 70 all_goals ((try conv=>whnf);try first|(with_reducible first|refine zY ?_|refine zN ?_|refine zT ?_|refine br (fun _=> ?_) (fun _=> ?_)|refine⟨rfl,?_⟩|refine dI.full ?_)|(refine eO [_] (by show 1<=1000;decide) rfl rfl rfl rfl hn rfl rfl rfl (by omega) fun g'=> ?_)|(refine And.intro ?_ ?_)|(exact trivial)|(exact⟨_,rfl,⟨rfl,rfl,trivial⟩,rfl,fY ⟨rfl,rfl,rfl,rfl,rfl,trivial⟩⟩)|with_reducible refine cW 6 ?_)
  ·iterate 80 all_goals ((try conv=>whnf);try first|(with_reducible first|refine zY ?_|refine zN ?_|refine zT ?_|refine br (fun _=> ?_) (fun _=> ?_)|refine⟨rfl,?_⟩)|(refine eO [_] (by show 1<=1000;decide) rfl rfl rfl rfl (by simp) rfl rfl rfl (by first|(simp;done)|(simp;omega)) fun g'=> ?_)|(refine co.L rfl rfl rfl (by simp) rfl fun g'=> ?_))
   all_goals refine WL.off ?_ ?_ ?_ rfl rfl
   all_goals first|rfl|(simp;done)|(simp_all;done)|(simp_all[Bool.or_assoc];done)
theorem QZ{v:Va}{tb nm:List UInt8}{slot kd:Int}{a:Ex}(ha:WX a):WX (.mk 23 v tb nm slot kd [a]):=by
 intro b xs hb;have e:ga (.mk 23 v tb nm slot kd [a])=(bg [115,117,109]::bg [40]::((ga a).1++[bg [41]]),(ga a).2):=by rw[fu,cL];rfl
 rw[e]at hb ⊢;have cb:=dw (.mk 23 v tb nm slot kd [a]);rw[aB,gU]at cb ⊢;have cC:=bK (gU a▸aB 23 v tb nm slot kd [a]▸aq (.mk 23 v tb nm slot kd [a]));simp only[List.length_append,List.length_cons,List.length_nil]at hb;have co:=ha b (xs++[bg [115,117,109]]++[bg [40]]) (by simp only[List.length_append,List.length_cons,List.length_nil];omega);generalize (ga a).1=ow at*;obtain⟨op',v',pZ,qb,ei,oJ,args'⟩:=a;rw[aB]at co;rw[aB]at cb cC ⊢;refine WC.of cC (fun hn=> ?_) fun hn g=> ?_
 ·subst hn
  refine bq rfl ?_;iterate 80 all_goals ((try conv=>whnf);try first|(with_reducible first|refine zY ?_|refine zN ?_|refine zT ?_|refine br (fun _=> ?_) (fun _=> ?_)|refine⟨rfl,?_⟩|refine au.call (cb) ?_)|(refine aK ?_)|(refine gE ?_))
  refine dx.out 2 (fun _=>[(2,.ref 1 0 0 0),(3,.ref 2 0 0 0)]) (fun g'=>⟨9,[(8,nY g' [bg [115,117,109]]),(3,.vec 0 1 [.int .i64 1] ⟨false,some 3⟩),(2,.vec 0 9 [.agg [.int .u8 23,.int .u8 v.k,.int .i64 v.i,.str v.s,.str tb,.str nm,.int .i64 slot,.int .u8 kd,gF [.agg [.int .u8 op',.int .u8 v'.k,.int .i64 v'.i,.str v'.s,.str pZ,.str qb,.int .i64 ei,.int .u8 oJ,gF (eP args')]]]] ⟨false,some 30⟩),(1,.vec 0 1 [.ref 0 0 0 0] ⟨false,some 71⟩),(0,mc b (.sl 8 g' 4 0 1 none))]⟩) ?_ fun g'=> ?_
  ·iterate 70 all_goals ((try conv=>whnf);try first|(with_reducible first|refine zY ?_|refine zN ?_|refine zT ?_|refine br (fun _=> ?_) (fun _=> ?_)|refine⟨rfl,?_⟩|refine dI.full ?_)|(refine jl [_] (by show 1<=1000;decide) rfl rfl rfl (by simp) fun g'=> ?_)|(refine And.intro ?_ ?_)|(exact trivial)|(exact⟨_,rfl,⟨rfl,rfl,trivial⟩,rfl,fY ⟨rfl,rfl,rfl,rfl,rfl,trivial⟩⟩)|with_reducible refine cW 6 ?_)
  ·iterate 80 all_goals ((try conv=>whnf);try first|(with_reducible first|refine zY ?_|refine zN ?_|refine zT ?_|refine br (fun _=> ?_) (fun _=> ?_)|refine⟨rfl,?_⟩)|(refine eO [_] (by show 1<=1000;decide) rfl rfl rfl rfl (by simp) rfl rfl rfl (by first|(simp;done)|(simp;omega)) fun g'=> ?_)|(refine co.L rfl rfl rfl (by simp) rfl fun g'=> ?_))
   all_goals refine WN.off ?_ ?_ ?_ (by decide) ?_ rfl rfl
   all_goals first|rfl|(simp;done)|(simp_all;done)|(simp_all[Bool.or_assoc];done)
 ·refine bq rfl ?_
  iterate 80 all_goals ((try conv=>whnf);try first|(with_reducible first|refine zY ?_|refine zN ?_|refine zT ?_|refine br (fun _=> ?_) (fun _=> ?_)|refine⟨rfl,?_⟩|refine au.call (cb) ?_)|(refine aK ?_)|(refine gE ?_))
  refine dx.out 2 (fun _=>[(2,.ref 2 0 0 0),(3,.ref 3 0 0 0)]) (fun g'=>⟨9,[(4,.vec 0 1 [.int .i64 1] ⟨false,some 3⟩),(3,.vec 0 9 [.agg [.int .u8 23,.int .u8 v.k,.int .i64 v.i,.str v.s,.str tb,.str nm,.int .i64 slot,.int .u8 kd,gF [.agg [.int .u8 op',.int .u8 v'.k,.int .i64 v'.i,.str v'.s,.str pZ,.str qb,.int .i64 ei,.int .u8 oJ,gF (eP args')]]]] ⟨false,some 30⟩),(2,.vec 0 1 [.ref 0 0 0 0] ⟨false,some 71⟩),(1,nY g' (xs++[bg [115,117,109]])),(0,mc b (.sl 1 g' 4 0 (xs++[bg [115,117,109]]).length none))]⟩) ?_ fun g'=> ?_
  ·iterate 70 all_goals ((try conv=>whnf);try first|(with_reducible first|refine zY ?_|refine zN ?_|refine zT ?_|refine br (fun _=> ?_) (fun _=> ?_)|refine⟨rfl,?_⟩|refine dI.full ?_)|(refine eO [_] (by show 1<=1000;decide) rfl rfl rfl rfl hn rfl rfl rfl (by omega) fun g'=> ?_)|(refine And.intro ?_ ?_)|(exact trivial)|(exact⟨_,rfl,⟨rfl,rfl,trivial⟩,rfl,fY ⟨rfl,rfl,rfl,rfl,rfl,trivial⟩⟩)|with_reducible refine cW 6 ?_)
  ·iterate 80 all_goals ((try conv=>whnf);try first|(with_reducible first|refine zY ?_|refine zN ?_|refine zT ?_|refine br (fun _=> ?_) (fun _=> ?_)|refine⟨rfl,?_⟩)|(refine eO [_] (by show 1<=1000;decide) rfl rfl rfl rfl (by simp) rfl rfl rfl (by first|(simp;done)|(simp;omega)) fun g'=> ?_)|(refine co.L rfl rfl rfl (by simp) rfl fun g'=> ?_))
   all_goals refine WL.off ?_ ?_ ?_ rfl rfl
   all_goals first|rfl|(simp;done)|(simp_all;done)|(simp_all[Bool.or_assoc];done)
end Go.Proofs.YtbjifmbemdhndaaGreatDoor
