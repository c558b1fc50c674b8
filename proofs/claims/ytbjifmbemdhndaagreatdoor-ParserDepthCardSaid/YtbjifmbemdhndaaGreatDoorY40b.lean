/- Parts of the proof of PParserDepth, one behind the other, with short names. -/
import Derived.Test.YtbjifmbemdhndaaGreatDoorY38
set_option linter.unusedVariables false
set_option linter.unusedSimpArgs false
namespace Go.Proofs.YtbjifmbemdhndaaGreatDoor
open Ab Go.RowKit
set_option maxRecDepth 100000
set_option maxHeartbeats 4000000
attribute [local irreducible] aO bx
theorem u0{op n left:Int}{s:List UInt8}(hop:(op=5/\s=[42]/\n=6/\left=6)\/(op=6/\s=[47]/\n=6/\left=6)\/(op=7/\s=[37]/\n=6/\left=6)){v:Va}{tb nm:List UInt8}{slot kd:Int}{a c:Ex}(ha:WX a)(hc:WX c):WX (.mk op v tb nm slot kd [a,c]):=by
 intro b xs hb
 have e:ga (.mk op v tb nm slot kd [a,c])=(bZ (kr a) left++bg s::bZ (kr c) (n+1),(ga a).2||(ga c).2):=by
  rw[fu,cL];rcases hop with⟨rfl,rfl,rfl,rfl⟩|⟨rfl,rfl,rfl,rfl⟩|⟨rfl,rfl,rfl,rfl⟩<;>rfl
 rw[e]at hb ⊢
 have cb:au Tryz.prog 67 [kq (.mk op v tb nm slot kd [a,c])] (.int .i64 n):=by
  have:=dw (.mk op v tb nm slot kd [a,c]);rcases hop with⟨rfl,rfl,rfl,rfl⟩|⟨rfl,rfl,rfl,rfl⟩|⟨rfl,rfl,rfl,rfl⟩<;>exact this
 rw[aB,oX]at cb ⊢;have cC:=bK (oX a c▸aB op v tb nm slot kd [a,c]▸aq (.mk op v tb nm slot kd [a,c]));simp only[List.length_append,List.length_cons,List.length_nil]at hb;have co:=bQ ha (least:=left) (b:=b) (xs:=xs) (by omega);have cd:=bQ hc (least:=n+1) (b:=b||(ga a).2) (xs:=xs++bZ (kr a) left++[bg s]) (by simp only[List.length_append,List.length_cons,List.length_nil];omega);generalize bZ (kr a) left=ow at*;generalize bZ (kr c) (n+1)=od at*;obtain⟨op',v',pZ,qb,ei,oJ,args'⟩:=a;obtain⟨JJ,v'',JK,JL,yC,JM,yD⟩:=c;rw[aB]at co cd;rw[aB,aB]at cb cC ⊢;refine WC.of cC (fun hn=> ?_) fun hn g=> ?_
 ·subst hn
  by_cases hz:ow=[]
  ·subst hz
   rcases hop with⟨rfl,rfl,rfl,rfl⟩|⟨rfl,rfl,rfl,rfl⟩|⟨rfl,rfl,rfl,rfl⟩
   all_goals
    refine bq rfl ?_;iterate 150 all_goals ((try conv=>whnf);try first|(with_reducible first|refine zY ?_|refine zN ?_|refine zT ?_|refine br (fun _=> ?_) (fun _=> ?_)|refine⟨rfl,?_⟩|refine au.call (cb) ?_)|(refine aK ?_)|(refine co.Z rfl ?_)|(refine jl [_] (by show 1<=1000;decide) rfl rfl rfl (by simp) fun g'=> ?_)|(refine cd.L rfl rfl rfl (by simp) rfl fun g'=> ?_))
    all_goals refine WN.off ?_ ?_ ?_ (by decide) ?_ rfl rfl
    all_goals first|rfl|(simp;done)|(simp_all;done)|(simp_all[Bool.or_assoc];done)
  ·rcases hop with⟨rfl,rfl,rfl,rfl⟩|⟨rfl,rfl,rfl,rfl⟩|⟨rfl,rfl,rfl,rfl⟩
   all_goals
    refine bq rfl ?_;iterate 150 all_goals ((try conv=>whnf);try first|(with_reducible first|refine zY ?_|refine zN ?_|refine zT ?_|refine br (fun _=> ?_) (fun _=> ?_)|refine⟨rfl,?_⟩|refine au.call (cb) ?_)|(refine aK ?_)|(refine co.N rfl (by simpa using hz) fun g'=> ?_)|(refine eO [_] (by show 1<=1000;decide) rfl rfl rfl rfl (by simpa using hz) rfl rfl rfl (by simp;omega) fun g'=> ?_)|(refine cd.L rfl rfl rfl (by simp) rfl fun g'=> ?_))
    all_goals refine WN.off ?_ ?_ ?_ (by decide) ?_ rfl rfl
    all_goals first|rfl|(simp;done)|(simp_all;done)|(simp_all[Bool.or_assoc];done)
 ·rcases hop with⟨rfl,rfl,rfl,rfl⟩|⟨rfl,rfl,rfl,rfl⟩|⟨rfl,rfl,rfl,rfl⟩
  all_goals
   refine bq rfl ?_;iterate 150 all_goals ((try conv=>whnf);try first|(with_reducible first|refine zY ?_|refine zN ?_|refine zT ?_|refine br (fun _=> ?_) (fun _=> ?_)|refine⟨rfl,?_⟩|refine au.call (cb) ?_)|(refine aK ?_)|(refine co.L rfl rfl rfl hn rfl fun g'=> ?_)|(refine eO [_] (by show 1<=1000;decide) rfl rfl rfl rfl (by simp[hn]) rfl rfl rfl (by simp;omega) fun g'=> ?_)|(refine cd.L rfl rfl rfl (by simp) rfl fun g'=> ?_))
   all_goals refine WL.off ?_ ?_ ?_ rfl rfl
   all_goals first|rfl|(simp;done)|(simp_all;done)|(simp_all[Bool.or_assoc];done)
end Go.Proofs.YtbjifmbemdhndaaGreatDoor
