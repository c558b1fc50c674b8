/- Parts of the proof of PParserBlanks, one behind the other, with short names. -/
import Derived.Test.YtbjifmbemdhndaaGreatDoorZ48
set_option linter.unusedVariables false
set_option linter.unusedSimpArgs false
namespace Go.Proofs.YtbjifmbemdhndaaGreatDoor
open Ab Go.RowKit
set_option maxRecDepth 100000
set_option maxHeartbeats 8000000
attribute [local irreducible] bB cH
def FN(x y:Sm):Bool:=x.kind==y.kind&&(x.name==y.name&&(x.Dw==y.Dw&&(x.uniq==y.uniq&&(x.limit==y.limit&&(dM oE x.gX y.gX&&(dM (fun a b=>a==b) x.key y.key&&(dM (fun a b=>a==b) x.names y.names&&
 (dM (dM fD) x.rows y.rows&&(dM sN x.items y.items&&(dM sO x.nO y.nO&&(dM sP x.order y.order&&(dM sQ x.sets y.sets&&(fD x.wh y.wh&&dM fD x.group y.group)))))))))))))
structure l7(x:Sm):Prop where
 gX:x.gX.length<=1000
 key:x.key.length<=1000
 names:x.names.length<=1000
 rows:x.rows.length<=1000
 row: ∀r∈x.rows,pY r=true
 items:x.items.length<=1000
 item: ∀i∈x.items,ct i.x=true
 nO:x.nO.length<=1000
 src: ∀i∈x.nO,ct i.vl=true
 wh:ct x.wh=true
 group:x.group.length<=1000
 XF: ∀i∈x.group,ct i=true
 order:x.order.length<=1000
 ord: ∀i∈x.order,ct i.x=true
 sets:x.sets.length<=1000
 UG: ∀i∈x.sets,ct i.x=true
theorem G7(x y:Sm)(hs:l7 x):aj Tryz.prog 12 [JW x,JW y] (.bool (FN x y)):=by
 have c1:=O0 x.gX y.gX hs.gX;have c2:=FM x.key y.key hs.key;have c3:=FM x.names y.names hs.names;have c4:=O3 x.rows y.rows hs.rows hs.row;have c5:=Lg x.items y.items hs.items hs.item;have c6:=SG x.nO y.nO hs.nO hs.src;have c7:=Lh x.order y.order hs.order hs.ord;have c8:=O1 x.sets y.sets hs.sets hs.UG;have c9:=qq x.wh y.wh hs.wh;have fQ:=SH x.group y.group hs.group hs.XF;refine bQ (kE (cW x) (cW y)) (LX.call mixed rfl ?_);unfold FN;generalize dM oE x.gX y.gX=b1 at c1 ⊢;generalize dM (fun a b=>a==b) x.key y.key=b2 at c2 ⊢;generalize dM (fun a b=>a==b) x.names y.names=b3 at c3 ⊢;generalize dM (dM fD) x.rows y.rows=b4 at c4 ⊢;generalize dM sN x.items y.items=b5 at c5 ⊢;generalize dM sO x.nO y.nO=b6 at c6 ⊢;generalize dM sP x.order y.order=b7 at c7 ⊢;generalize dM sQ x.sets y.sets=b8 at c8 ⊢;generalize fD x.wh y.wh=b9 at c9 ⊢;generalize dM fD x.group y.group=yT at fQ ⊢;cases h0:(x.kind==y.kind)with
 |false=>
  cases b1 with
  |false=>
   iterate 120 all_goals ((try conv=>whnf);try first|(with_reducible first|refine zY ?_|refine zN ?_|refine zT ?_|refine br (fun _=> ?_) (fun _=> ?_)|refine⟨rfl,?_⟩)|(refine aj.call c1 ?_)|(refine aj.call c2 ?_)|(refine aj.call c3 ?_)|(refine aj.call c4 ?_)|(refine aj.call c5 ?_)|(refine aj.call c6 ?_)|(refine aj.call c7 ?_)|(refine aj.call c8 ?_)|(refine aj.call c9 ?_)|(refine aj.call fQ ?_))
   exact leaf (by simp) (.bool _)
  |true=>
   cases b2 with
   |false=>
    iterate 120 all_goals ((try conv=>whnf);try first|(with_reducible first|refine zY ?_|refine zN ?_|refine zT ?_|refine br (fun _=> ?_) (fun _=> ?_)|refine⟨rfl,?_⟩)|(refine aj.call c1 ?_)|(refine aj.call c2 ?_)|(refine aj.call c3 ?_)|(refine aj.call c4 ?_)|(refine aj.call c5 ?_)|(refine aj.call c6 ?_)|(refine aj.call c7 ?_)|(refine aj.call c8 ?_)|(refine aj.call c9 ?_)|(refine aj.call fQ ?_))
    exact leaf (by simp) (.bool _)
   |true=>
    cases b3 with
    |false=>
     iterate 120 all_goals ((try conv=>whnf);try first|(with_reducible first|refine zY ?_|refine zN ?_|refine zT ?_|refine br (fun _=> ?_) (fun _=> ?_)|refine⟨rfl,?_⟩)|(refine aj.call c1 ?_)|(refine aj.call c2 ?_)|(refine aj.call c3 ?_)|(refine aj.call c4 ?_)|(refine aj.call c5 ?_)|(refine aj.call c6 ?_)|(refine aj.call c7 ?_)|(refine aj.call c8 ?_)|(refine aj.call c9 ?_)|(refine aj.call fQ ?_))
     exact leaf (by simp) (.bool _)
    |true=>
     iterate 120 all_goals ((try conv=>whnf);try first|(with_reducible first|refine zY ?_|refine zN ?_|refine zT ?_|refine br (fun _=> ?_) (fun _=> ?_)|refine⟨rfl,?_⟩)|(refine aj.call c1 ?_)|(refine aj.call c2 ?_)|(refine aj.call c3 ?_)|(refine aj.call c4 ?_)|(refine aj.call c5 ?_)|(refine aj.call c6 ?_)|(refine aj.call c7 ?_)|(refine aj.call c8 ?_)|(refine aj.call c9 ?_)|(refine aj.call fQ ?_))
     exact leaf (by simp) (.bool _)
 |true=>
  cases h1:(x.name==y.name)with
  |false=>
   cases b1 with
   |false=>
    iterate 120 all_goals ((try conv=>whnf);try first|(with_reducible first|refine zY ?_|refine zN ?_|refine zT ?_|refine br (fun _=> ?_) (fun _=> ?_)|refine⟨rfl,?_⟩)|(refine aj.call c1 ?_)|(refine aj.call c2 ?_)|(refine aj.call c3 ?_)|(refine aj.call c4 ?_)|(refine aj.call c5 ?_)|(refine aj.call c6 ?_)|(refine aj.call c7 ?_)|(refine aj.call c8 ?_)|(refine aj.call c9 ?_)|(refine aj.call fQ ?_))
    exact leaf (by simp) (.bool _)
   |true=>
    cases b2 with
    |false=>
     iterate 120 all_goals ((try conv=>whnf);try first|(with_reducible first|refine zY ?_|refine zN ?_|refine zT ?_|refine br (fun _=> ?_) (fun _=> ?_)|refine⟨rfl,?_⟩)|(refine aj.call c1 ?_)|(refine aj.call c2 ?_)|(refine aj.call c3 ?_)|(refine aj.call c4 ?_)|(refine aj.call c5 ?_)|(refine aj.call c6 ?_)|(refine aj.call c7 ?_)|(refine aj.call c8 ?_)|(refine aj.call c9 ?_)|(refine aj.call fQ ?_))
     exact leaf (by simp) (.bool _)
    |true=>
     cases b3 with
     |false=>
      iterate 120 all_goals ((try conv=>whnf);try first|(with_reducible first|refine zY ?_|refine zN ?_|refine zT ?_|refine br (fun _=> ?_) (fun _=> ?_)|refine⟨rfl,?_⟩)|(refine aj.call c1 ?_)|(refine aj.call c2 ?_)|(refine aj.call c3 ?_)|(refine aj.call c4 ?_)|(refine aj.call c5 ?_)|(refine aj.call c6 ?_)|(refine aj.call c7 ?_)|(refine aj.call c8 ?_)|(refine aj.call c9 ?_)|(refine aj.call fQ ?_))
      exact leaf (by simp) (.bool _)
     |true=>
      iterate 120 all_goals ((try conv=>whnf);try first|(with_reducible first|refine zY ?_|refine zN ?_|refine zT ?_|refine br (fun _=> ?_) (fun _=> ?_)|refine⟨rfl,?_⟩)|(refine aj.call c1 ?_)|(refine aj.call c2 ?_)|(refine aj.call c3 ?_)|(refine aj.call c4 ?_)|(refine aj.call c5 ?_)|(refine aj.call c6 ?_)|(refine aj.call c7 ?_)|(refine aj.call c8 ?_)|(refine aj.call c9 ?_)|(refine aj.call fQ ?_))
      exact leaf (by simp) (.bool _)
  |true=>
   cases h2:(x.Dw==y.Dw)with
   |false=>
    cases b1 with
    |false=>
     iterate 120 all_goals ((try conv=>whnf);try first|(with_reducible first|refine zY ?_|refine zN ?_|refine zT ?_|refine br (fun _=> ?_) (fun _=> ?_)|refine⟨rfl,?_⟩)|(refine aj.call c1 ?_)|(refine aj.call c2 ?_)|(refine aj.call c3 ?_)|(refine aj.call c4 ?_)|(refine aj.call c5 ?_)|(refine aj.call c6 ?_)|(refine aj.call c7 ?_)|(refine aj.call c8 ?_)|(refine aj.call c9 ?_)|(refine aj.call fQ ?_))
     exact leaf (by simp) (.bool _)
    |true=>
     cases b2 with
     |false=>
      iterate 120 all_goals ((try conv=>whnf);try first|(with_reducible first|refine zY ?_|refine zN ?_|refine zT ?_|refine br (fun _=> ?_) (fun _=> ?_)|refine⟨rfl,?_⟩)|(refine aj.call c1 ?_)|(refine aj.call c2 ?_)|(refine aj.call c3 ?_)|(refine aj.call c4 ?_)|(refine aj.call c5 ?_)|(refine aj.call c6 ?_)|(refine aj.call c7 ?_)|(refine aj.call c8 ?_)|(refine aj.call c9 ?_)|(refine aj.call fQ ?_))
      exact leaf (by simp) (.bool _)
     |true=>
      cases b3 with
      |false=>
       iterate 120 all_goals ((try conv=>whnf);try first|(with_reducible first|refine zY ?_|refine zN ?_|refine zT ?_|refine br (fun _=> ?_) (fun _=> ?_)|refine⟨rfl,?_⟩)|(refine aj.call c1 ?_)|(refine aj.call c2 ?_)|(refine aj.call c3 ?_)|(refine aj.call c4 ?_)|(refine aj.call c5 ?_)|(refine aj.call c6 ?_)|(refine aj.call c7 ?_)|(refine aj.call c8 ?_)|(refine aj.call c9 ?_)|(refine aj.call fQ ?_))
       exact leaf (by simp) (.bool _)
      |true=>
       iterate 120 all_goals ((try conv=>whnf);try first|(with_reducible first|refine zY ?_|refine zN ?_|refine zT ?_|refine br (fun _=> ?_) (fun _=> ?_)|refine⟨rfl,?_⟩)|(refine aj.call c1 ?_)|(refine aj.call c2 ?_)|(refine aj.call c3 ?_)|(refine aj.call c4 ?_)|(refine aj.call c5 ?_)|(refine aj.call c6 ?_)|(refine aj.call c7 ?_)|(refine aj.call c8 ?_)|(refine aj.call c9 ?_)|(refine aj.call fQ ?_))
       exact leaf (by simp) (.bool _)
   |true=>
    cases h3:(x.uniq==y.uniq)with
    |false=>
     cases b1 with
     |false=>
      iterate 120 all_goals ((try conv=>whnf);try first|(with_reducible first|refine zY ?_|refine zN ?_|refine zT ?_|refine br (fun _=> ?_) (fun _=> ?_)|refine⟨rfl,?_⟩)|(refine aj.call c1 ?_)|(refine aj.call c2 ?_)|(refine aj.call c3 ?_)|(refine aj.call c4 ?_)|(refine aj.call c5 ?_)|(refine aj.call c6 ?_)|(refine aj.call c7 ?_)|(refine aj.call c8 ?_)|(refine aj.call c9 ?_)|(refine aj.call fQ ?_))
      exact leaf (by simp) (.bool _)
     |true=>
      cases b2 with
      |false=>
       iterate 120 all_goals ((try conv=>whnf);try first|(with_reducible first|refine zY ?_|refine zN ?_|refine zT ?_|refine br (fun _=> ?_) (fun _=> ?_)|refine⟨rfl,?_⟩)|(refine aj.call c1 ?_)|(refine aj.call c2 ?_)|(refine aj.call c3 ?_)|(refine aj.call c4 ?_)|(refine aj.call c5 ?_)|(refine aj.call c6 ?_)|(refine aj.call c7 ?_)|(refine aj.call c8 ?_)|(refine aj.call c9 ?_)|(refine aj.call fQ ?_))
       exact leaf (by simp) (.bool _)
      |true=>
       cases b3 with
       |false=>
        iterate 120 all_goals ((try conv=>whnf);try first|(with_reducible first|refine zY ?_|refine zN ?_|refine zT ?_|refine br (fun _=> ?_) (fun _=> ?_)|refine⟨rfl,?_⟩)|(refine aj.call c1 ?_)|(refine aj.call c2 ?_)|(refine aj.call c3 ?_)|(refine aj.call c4 ?_)|(refine aj.call c5 ?_)|(refine aj.call c6 ?_)|(refine aj.call c7 ?_)|(refine aj.call c8 ?_)|(refine aj.call c9 ?_)|(refine aj.call fQ ?_))
        exact leaf (by simp) (.bool _)
       |true=>
        iterate 120 all_goals ((try conv=>whnf);try first|(with_reducible first|refine zY ?_|refine zN ?_|refine zT ?_|refine br (fun _=> ?_) (fun _=> ?_)|refine⟨rfl,?_⟩)|(refine aj.call c1 ?_)|(refine aj.call c2 ?_)|(refine aj.call c3 ?_)|(refine aj.call c4 ?_)|(refine aj.call c5 ?_)|(refine aj.call c6 ?_)|(refine aj.call c7 ?_)|(refine aj.call c8 ?_)|(refine aj.call c9 ?_)|(refine aj.call fQ ?_))
        exact leaf (by simp) (.bool _)
    |true=>
     cases h4:(x.limit==y.limit)with
     |false=>
      cases b1 with
      |false=>
       iterate 120 all_goals ((try conv=>whnf);try first|(with_reducible first|refine zY ?_|refine zN ?_|refine zT ?_|refine br (fun _=> ?_) (fun _=> ?_)|refine⟨rfl,?_⟩)|(refine aj.call c1 ?_)|(refine aj.call c2 ?_)|(refine aj.call c3 ?_)|(refine aj.call c4 ?_)|(refine aj.call c5 ?_)|(refine aj.call c6 ?_)|(refine aj.call c7 ?_)|(refine aj.call c8 ?_)|(refine aj.call c9 ?_)|(refine aj.call fQ ?_))
       exact leaf (by simp) (.bool _)
      |true=>
       cases b2 with
       |false=>
        iterate 120 all_goals ((try conv=>whnf);try first|(with_reducible first|refine zY ?_|refine zN ?_|refine zT ?_|refine br (fun _=> ?_) (fun _=> ?_)|refine⟨rfl,?_⟩)|(refine aj.call c1 ?_)|(refine aj.call c2 ?_)|(refine aj.call c3 ?_)|(refine aj.call c4 ?_)|(refine aj.call c5 ?_)|(refine aj.call c6 ?_)|(refine aj.call c7 ?_)|(refine aj.call c8 ?_)|(refine aj.call c9 ?_)|(refine aj.call fQ ?_))
        exact leaf (by simp) (.bool _)
       |true=>
        cases b3 with
        |false=>
         iterate 120 all_goals ((try conv=>whnf);try first|(with_reducible first|refine zY ?_|refine zN ?_|refine zT ?_|refine br (fun _=> ?_) (fun _=> ?_)|refine⟨rfl,?_⟩)|(refine aj.call c1 ?_)|(refine aj.call c2 ?_)|(refine aj.call c3 ?_)|(refine aj.call c4 ?_)|(refine aj.call c5 ?_)|(refine aj.call c6 ?_)|(refine aj.call c7 ?_)|(refine aj.call c8 ?_)|(refine aj.call c9 ?_)|(refine aj.call fQ ?_))
         exact leaf (by simp) (.bool _)
        |true=>
         iterate 120 all_goals ((try conv=>whnf);try first|(with_reducible first|refine zY ?_|refine zN ?_|refine zT ?_|refine br (fun _=> ?_) (fun _=> ?_)|refine⟨rfl,?_⟩)|(refine aj.call c1 ?_)|(refine aj.call c2 ?_)|(refine aj.call c3 ?_)|(refine aj.call c4 ?_)|(refine aj.call c5 ?_)|(refine aj.call c6 ?_)|(refine aj.call c7 ?_)|(refine aj.call c8 ?_)|(refine aj.call c9 ?_)|(refine aj.call fQ ?_))
         exact leaf (by simp) (.bool _)
     |true=>
      cases b1 with
      |false=>
       iterate 120 all_goals ((try conv=>whnf);try first|(with_reducible first|refine zY ?_|refine zN ?_|refine zT ?_|refine br (fun _=> ?_) (fun _=> ?_)|refine⟨rfl,?_⟩)|(refine aj.call c1 ?_)|(refine aj.call c2 ?_)|(refine aj.call c3 ?_)|(refine aj.call c4 ?_)|(refine aj.call c5 ?_)|(refine aj.call c6 ?_)|(refine aj.call c7 ?_)|(refine aj.call c8 ?_)|(refine aj.call c9 ?_)|(refine aj.call fQ ?_))
       exact leaf (by simp) (.bool _)
      |true=>
       cases b2 with
       |false=>
        iterate 120 all_goals ((try conv=>whnf);try first|(with_reducible first|refine zY ?_|refine zN ?_|refine zT ?_|refine br (fun _=> ?_) (fun _=> ?_)|refine⟨rfl,?_⟩)|(refine aj.call c1 ?_)|(refine aj.call c2 ?_)|(refine aj.call c3 ?_)|(refine aj.call c4 ?_)|(refine aj.call c5 ?_)|(refine aj.call c6 ?_)|(refine aj.call c7 ?_)|(refine aj.call c8 ?_)|(refine aj.call c9 ?_)|(refine aj.call fQ ?_))
        exact leaf (by simp) (.bool _)
       |true=>
        cases b3 with
        |false=>
         iterate 120 all_goals ((try conv=>whnf);try first|(with_reducible first|refine zY ?_|refine zN ?_|refine zT ?_|refine br (fun _=> ?_) (fun _=> ?_)|refine⟨rfl,?_⟩)|(refine aj.call c1 ?_)|(refine aj.call c2 ?_)|(refine aj.call c3 ?_)|(refine aj.call c4 ?_)|(refine aj.call c5 ?_)|(refine aj.call c6 ?_)|(refine aj.call c7 ?_)|(refine aj.call c8 ?_)|(refine aj.call c9 ?_)|(refine aj.call fQ ?_))
         exact leaf (by simp) (.bool _)
        |true=>
         cases b4 with
         |false=>
          iterate 120 all_goals ((try conv=>whnf);try first|(with_reducible first|refine zY ?_|refine zN ?_|refine zT ?_|refine br (fun _=> ?_) (fun _=> ?_)|refine⟨rfl,?_⟩)|(refine aj.call c1 ?_)|(refine aj.call c2 ?_)|(refine aj.call c3 ?_)|(refine aj.call c4 ?_)|(refine aj.call c5 ?_)|(refine aj.call c6 ?_)|(refine aj.call c7 ?_)|(refine aj.call c8 ?_)|(refine aj.call c9 ?_)|(refine aj.call fQ ?_))
          exact leaf (by simp) (.bool _)
         |true=>
          cases b5 with
          |false=>
           iterate 120 all_goals ((try conv=>whnf);try first|(with_reducible first|refine zY ?_|refine zN ?_|refine zT ?_|refine br (fun _=> ?_) (fun _=> ?_)|refine⟨rfl,?_⟩)|(refine aj.call c1 ?_)|(refine aj.call c2 ?_)|(refine aj.call c3 ?_)|(refine aj.call c4 ?_)|(refine aj.call c5 ?_)|(refine aj.call c6 ?_)|(refine aj.call c7 ?_)|(refine aj.call c8 ?_)|(refine aj.call c9 ?_)|(refine aj.call fQ ?_))
           exact leaf (by simp) (.bool _)
          |true=>
           cases b6 with
           |false=>
            iterate 120 all_goals ((try conv=>whnf);try first|(with_reducible first|refine zY ?_|refine zN ?_|refine zT ?_|refine br (fun _=> ?_) (fun _=> ?_)|refine⟨rfl,?_⟩)|(refine aj.call c1 ?_)|(refine aj.call c2 ?_)|(refine aj.call c3 ?_)|(refine aj.call c4 ?_)|(refine aj.call c5 ?_)|(refine aj.call c6 ?_)|(refine aj.call c7 ?_)|(refine aj.call c8 ?_)|(refine aj.call c9 ?_)|(refine aj.call fQ ?_))
            exact leaf (by simp) (.bool _)
           |true=>
            cases b7 with
            |false=>
             iterate 120 all_goals ((try conv=>whnf);try first|(with_reducible first|refine zY ?_|refine zN ?_|refine zT ?_|refine br (fun _=> ?_) (fun _=> ?_)|refine⟨rfl,?_⟩)|(refine aj.call c1 ?_)|(refine aj.call c2 ?_)|(refine aj.call c3 ?_)|(refine aj.call c4 ?_)|(refine aj.call c5 ?_)|(refine aj.call c6 ?_)|(refine aj.call c7 ?_)|(refine aj.call c8 ?_)|(refine aj.call c9 ?_)|(refine aj.call fQ ?_))
             exact leaf (by simp) (.bool _)
            |true=>
             cases b8 with
             |false=>
              iterate 120 all_goals ((try conv=>whnf);try first|(with_reducible first|refine zY ?_|refine zN ?_|refine zT ?_|refine br (fun _=> ?_) (fun _=> ?_)|refine⟨rfl,?_⟩)|(refine aj.call c1 ?_)|(refine aj.call c2 ?_)|(refine aj.call c3 ?_)|(refine aj.call c4 ?_)|(refine aj.call c5 ?_)|(refine aj.call c6 ?_)|(refine aj.call c7 ?_)|(refine aj.call c8 ?_)|(refine aj.call c9 ?_)|(refine aj.call fQ ?_))
              exact leaf (by simp) (.bool _)
             |true=>
              cases b9 with
              |false=>
               iterate 120 all_goals ((try conv=>whnf);try first|(with_reducible first|refine zY ?_|refine zN ?_|refine zT ?_|refine br (fun _=> ?_) (fun _=> ?_)|refine⟨rfl,?_⟩)|(refine aj.call c1 ?_)|(refine aj.call c2 ?_)|(refine aj.call c3 ?_)|(refine aj.call c4 ?_)|(refine aj.call c5 ?_)|(refine aj.call c6 ?_)|(refine aj.call c7 ?_)|(refine aj.call c8 ?_)|(refine aj.call c9 ?_)|(refine aj.call fQ ?_))
               exact leaf (by simp) (.bool _)
              |true=>
               iterate 120 all_goals ((try conv=>whnf);try first|(with_reducible first|refine zY ?_|refine zN ?_|refine zT ?_|refine br (fun _=> ?_) (fun _=> ?_)|refine⟨rfl,?_⟩)|(refine aj.call c1 ?_)|(refine aj.call c2 ?_)|(refine aj.call c3 ?_)|(refine aj.call c4 ?_)|(refine aj.call c5 ?_)|(refine aj.call c6 ?_)|(refine aj.call c7 ?_)|(refine aj.call c8 ?_)|(refine aj.call c9 ?_)|(refine aj.call fQ ?_))
               exact leaf (by simp) (.bool _)
end Go.Proofs.YtbjifmbemdhndaaGreatDoor
namespace Go.Proofs.YtbjifmbemdhndaaGreatDoor
open Ab Go.RowKit
set_option maxRecDepth 100000
mutual
theorem gD: ∀x:Ex,fD x x=true
 | .mk op v tb nm slot kd args=>by rw[fD,uK args];simp
theorem uK: ∀l:List Ex,rF l l=true
 | []=>rfl
 |x::r=>by rw[rF,gD x,uK r];rfl
end
theorem eT{α:Type}{p:α->α->Bool}(h: ∀x,p x x=true): ∀l:List α,dM p l l=true
 | []=>rfl
 |x::r=>by rw[dM,h x,eT h r];rfl
theorem DZ(x:Sm):FN x x=true:=by
 unfold FN
 rw[eT (p:=oE) (fun x=>by simp[oE]),eT (p:=fun a b=>a==b) (fun x=>by simp) x.key,eT (p:=fun a b=>a==b) (fun x=>by simp) x.names,
  eT (p:=dM fD) (eT gD),eT (p:=sN) (fun x=>by simp[sN,gD]),eT (p:=sO) (fun x=>by simp[sO,gD]),
  eT (p:=sP) (fun x=>by simp[sP,gD]),eT (p:=sQ) (fun x=>by simp[sQ,gD]),gD,eT gD]
 simp
theorem JF{l r:List TP}(h:l.map (·.1)=r.map (·.1)):aq l=aq r:=by
 funext i
 have hl: ∀(l:List TP),aq l i=(l.map (·.1)).getD i aC.1:=fun l=>by
  show(l.getD i aC).1=_;rw[List.getD,List.getD,List.getElem?_map];cases l[i]? <;>rfl
 rw[hl l,hl r,h]
theorem rG{l r:List TP}(h:l.map (·.1)=r.map (·.1))(m k:Nat):(eL l m).1=(eL r k).1/\(eL l m).2.1=(eL r k).2.1:=by
 have hT:=JF h;have hlen:l.length=r.length:=by have:=congrArg List.length h;rwa[List.length_map,List.length_map]at this
 have hx:bD l=bD r:=by unfold bD;rw[hT,hlen]
 unfold eL;rw[hT,hlen,hx];cases uJ (aq r) r.length (dP aH) (bD r) 0 with
 |bad er j=>exact⟨rfl,rfl⟩
 |ok x j=>
  dsimp only;by_cases hj:qM (aq r) j<r.length
  ·rw[if_pos hj,if_pos hj];exact⟨rfl,rfl⟩
  ·rw[if_neg hj,if_neg hj];exact⟨rfl,rfl⟩
section
def fB{α:Type}(p:α->Prop)(r:aF α):Prop:=match r with
 | .ok x _=>p x
 | .bad _ _=>True
theorem fB.ok{α:Type}{p:α->Prop}{x:α}{j:Nat}(h:p x):fB p (.ok x j):=h
theorem fB.bad{α:Type}{p:α->Prop}{e:Int}{j:Nat}:fB p (.bad e j:aF α):=trivial
theorem fB.then{α β:Type}{q:α->Prop}{p:β->Prop}{r:aF α}{f:α->Nat->aF β}(h:fB q r)(k: ∀x j,q x->fB p (f x j)):fB p (r.then f):=by
 cases r with
 |ok x j=>exact k x j h
 |bad e j=>trivial
theorem fB.any{α:Type}(r:aF α):fB (fun _=>True) r:=by cases r<;>trivial
theorem fB.skip{α β:Type}{p:β->Prop}{r:aF α}{f:α->Nat->aF β}(k: ∀x j,fB p (f x j)):fB p (r.then f):=(fB.any r).then fun x j _=>k x j
theorem fB.ite{α:Type}{p:α->Prop}{c:Prop}[Decidable c]{a b:aF α}(h:c->fB p a)(k: ¬c->fB p b):fB p (if c then a else b):=by
 by_cases hc:c
 ·rw[if_pos hc];exact h hc
 ·rw[if_neg hc];exact k hc
abbrev SX(r:aF Ex):Prop:=fB (fun x=>ct x=true) r
theorem JG(op:Int)(v:Va)(tb nm:List UInt8)(s k:Int):ct (.mk op v tb nm s k [])=true:=rfl
theorem wY{op:Int}{x:Ex}(h:ct x=true):ct (qw op [x])=true:=by simp[qw,ct,om,h]
theorem JH{op:Int}{x y:Ex}(h:ct x=true)(k:ct y=true):ct (qw op [x,y])=true:=by simp[qw,ct,om,h,k]
variable {T:nE} {cU:List UInt8->Bool} {n:Nat}
theorem wZ{ops:Fu}{part:Nat->aF Ex}(hp: ∀i,SX (part i)): ∀(f:Nat) (x:Ex) (i:Nat),ct x=true->SX (dh T ops part f x i)
 |0,x,i,h=>h
 |f+1,x,i,h=>by
  rw[dh];cases lT ops (T i)with
  |none=>exact h
  |some op=>exact(hp (i+1)).then fun y j hy=>wZ hp f _ j (JH h hy)
theorem sR{ops:Fu}{part:Nat->aF Ex}(hp: ∀i,SX (part i))(i:Nat):SX (iA T n ops part i):=(hp i).then fun x j hx=>wZ hp n x j hx
theorem JI(i:Nat):SX (rm T cU i):=fB.skip fun s j=> .ite (fun _=>fB.skip fun t k=>JG ..) fun _=>JG ..
structure SL(L:Lv):Prop where
 expr: ∀i,SX (L.expr i)
 uW: ∀i,SX (L.uW i)
 unary: ∀i,SX (L.unary i)
theorem vt{dn:Option Lv}(hd: ∀L,dn=some L->SL L){i:Nat}{f:Lv->aF Ex}(k: ∀L,SL L->SX (f L)):SX (kH dn i f):=by
 cases h:dn with
 |none=>trivial
 |some L=>exact k L (hd L h)
theorem O4{L:Lv}(hL:SL L)(op:Int)(i:Nat):SX (wC T L op i):= .ite (fun _=> .ite (fun _=>fB.skip fun _ _=>rfl) fun _=>(hL.expr _).then fun x j hx=>fB.skip fun _ _=>wY hx) fun _=>trivial
theorem Cq{dn:Option Lv}(hd: ∀L,dn=some L->SL L)(i:Nat):SX (oC.rq T cU dn i):= .ite (fun _=>vt hd fun L hL=>(hL.expr _).then fun x j hx=>fB.skip fun _ _=>hx) fun _=>JI i
theorem Li{dn:Option Lv}(hd: ∀L,dn=some L->SL L)(i:Nat):SX (oC T cU dn i):=by
 unfold oC;refine .ite (fun _=> .ite (fun _=>trivial) fun _=>rfl) fun _=> .ite (fun _=>rfl) fun _=> .ite (fun _=> ?_) fun _=>Cq hd i
 cases zP (T i).t with
 |some v=>exact rfl
 |none=>
  dsimp only;cases find? DF (T i).t with
  |none=>exact Cq hd i
  |some op=>exact vt hd fun L hL=>O4 hL op i
theorem JJ{dn:Option Lv}(hd: ∀L,dn=some L->SL L){tJ:Nat->aF Ex}(hp: ∀i,SX (tJ i))(i:Nat):SX (tK T dn tJ i):= .ite (fun _=> .ite (fun _=>rfl) fun _=>vt hd fun L hL=>(hL.unary _).then fun x j hx=>wY hx) fun _=>hp i
theorem O5{dn:Option Lv}(hd: ∀L,dn=some L->SL L){cmp:Nat->aF Ex}(hp: ∀i,SX (cmp i))(i:Nat):SX (GD T dn cmp i):= .ite (fun _=>vt hd fun L hL=>(hL.uW _).then fun x j hx=>wY hx) fun _=>hp i
theorem O6{sum:Nat->aF Ex}(hp: ∀i,SX (sum i))(i:Nat):SX (GF T sum i):=(hp i).then fun x j hx=> .ite (fun _=> .ite (fun _=>fB.skip fun _ _=>wY hx) fun _=>fB.skip fun _ _=>wY hx) fun _=>by
 cases find? DE (T j).t with
 |none=>exact hx
 |some op=>exact .ite (fun _=>(hp (j+1)).then fun y k hy=>JH hx hy) fun _=>hx
theorem MI{dn:Option Lv}(hd: ∀L,dn=some L->SL L):SL (IY T cU n dn):=by
 have h1:=Li (T:=T) (cU:=cU) hd;have h2:=JJ (T:=T) hd h1;have h3:=sR (T:=T) (n:=n) (ops:=fK) h2;have h4:=sR (T:=T) (n:=n) (ops:=fJ) h3;have h5:=O6 (T:=T) h4;have h6:=O5 (T:=T) hd h5;have h7:=sR (T:=T) (n:=n) (ops:=gV) h6;exact⟨sR h7,h6,h2⟩
theorem MJ: ∀d:Nat,SL (R4 T cU n d)
 |0=>MI fun L h=>by cases h
 |d+1=>MI fun L h=>by cases h;exact MJ d
end
section
variable {T:nE} {len:Nat} {cU:List UInt8->Bool} {expr:Nat->aF Ex}
def Cr{α:Type}(p:α->Prop)(l:List α):Prop:=l.length<=1000/\ ∀x∈l,p x
theorem w4{α:Type}{p:α->Prop}{one:Nat->aF α}(hp: ∀i,fB p (one i)): ∀(f:Nat) (acc:List α) (i:Nat),(∀ x∈acc,p x)->fB (fun r=>r.length<=acc.length+f/\ ∀x∈r,p x) (cN T len one f acc i)
 |0,acc,i,h=>trivial
 |f+1,acc,i,h=>by
  rw[cN];refine(hp i).then fun x j hx=> ?_
  have h': ∀y∈acc++[x],p y:=fun y hy=>by
   rcases List.mem_append.1 hy with hy|hy
   ·exact h y hy
   ·rw[List.mem_singleton.1 hy];exact hx
  have hl:(acc++[x]).length=acc.length+1:=by simp
  refine .ite (fun _=> ?_) fun _=>⟨by rw[hl];omega,h'⟩
  have:=w4 hp f (acc++[x]) (j+1) h';cases hr:cN T len one f (acc++[x]) (j+1)with
  |bad e k=>trivial
  |ok r k=>
   rw[hr]at this;exact⟨Nat.le_trans this.1 (by rw[hl];omega),this.2⟩
theorem nM{α:Type}{p:α->Prop}{one:Nat->aF α}(hp: ∀i,fB p (one i)){most:Nat}(hm:most<=1000)(i:Nat):fB (Cr p) (cN T len one most [] i):=by
 have:=w4 (T:=T) (len:=len) hp most [] i (fun _ h=>by cases h);cases hr:cN T len one most [] i with
 |bad e k=>trivial
 |ok r k=>
  rw[hr]at this;exact⟨by have:=this.1;simp at this;omega,this.2⟩
theorem Lj{α:Type}{one:Nat->aF α}{most:Nat}(hm:most<=1000)(i:Nat):fB (Cr fun _=>True) (cN T len one most [] i):=nM (fun i=>fB.any _) hm i
theorem tX{most:Nat}(hm:most<=1000)(i:Nat):fB (Cr fun _=>True) (iB T len cU most i):=fB.skip fun _ j=>(Lj hm j).then fun ns k h=>fB.skip fun _ _=>h
section
variable (hx: ∀i,SX (expr i))
include hx
theorem JK(i:Nat):fB (fun x:CC=>ct x.x=true) (qK T cU expr i):= .ite (fun _=>rfl) fun _=>(hx i).then fun x j h=>fB.skip fun _ _=>h
theorem tY(i:Nat):SX (lX T expr i):= .ite (fun _=>hx _) fun _=>rfl
theorem w5(b:Bool)(i:Nat):fB (fun x:Src=>ct x.vl=true) (gO T cU expr b i):=fB.skip fun t j=>fB.skip fun a k=> .ite (fun _=>fB.skip fun _ q=>(hx q).then fun x p h=>h) fun _=>rfl
theorem y7: ∀(f:Nat) (acc:List Src) (i:Nat),acc.length+f<=4->(∀ x∈acc,ct x.vl=true)->fB (Cr fun x:Src=>ct x.vl=true) (iU T len cU expr f acc i)
 |0,acc,i,hl,h=> .ite (fun _=>trivial) fun _=>⟨by omega,h⟩
 |f+1,acc,i,hl,h=> .ite (fun _=>(w5 hx true _).then fun s j hs=>y7 f (acc++[s]) j (by simp;omega) fun y hy=>by
   rcases List.mem_append.1 hy with hy|hy
   ·exact h y hy
   ·rw[List.mem_singleton.1 hy];exact hs) fun _=>⟨by omega,h⟩
theorem G8(i:Nat):fB (fun x:Ord=>ct x.x=true) (lY T expr i):=(hx i).then fun x j h=> .ite (fun _=>h) fun _=> .ite (fun _=>h) fun _=>h
theorem Ll(i:Nat):fB (fun x:K0=>ct x.x=true) (xL T cU expr i):=fB.skip fun n j=>fB.skip fun _ k=>(hx k).then fun x q h=>h
theorem Lm(i:Nat):fB (fun r:List Ex=>pY r=true) (wN T len expr i):=fB.skip fun _ j=>(nM hx (by decide) j).then fun r k h=>fB.skip fun _ _=>by
 show pY r=true;unfold pY;rw[Bool.and_eq_true];exact⟨decide_eq_true h.1,List.all_eq_true.2 h.2⟩
omit hx in
theorem JL {α:Type} {p:α->Prop} {one:Nat->aF α} {w:List UInt8} (hp: ∀i,fB p (one i)) (i:Nat):fB (Cr p) (Tf T len w one i):= .ite (fun _=>fB.skip fun _ j=>nM hp (by decide) j) fun _=>⟨Nat.zero_le _,fun _ h=>by cases h⟩
end
end
end Go.Proofs.YtbjifmbemdhndaaGreatDoor
