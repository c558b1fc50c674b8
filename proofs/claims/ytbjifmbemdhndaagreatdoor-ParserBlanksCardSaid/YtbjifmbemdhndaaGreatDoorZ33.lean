/- Parts of the proof of PParserBlanks, one behind the other, with short names. -/
import Derived.Test.YtbjifmbemdhndaaGreatDoorZ32
import Derived.Test.YtbjifmbemdhndaaGreatDoorZ31
set_option linter.unusedVariables false
set_option linter.unusedSimpArgs false
namespace Go.Proofs.YtbjifmbemdhndaaGreatDoor
open Ab Go.RowKit
set_option maxRecDepth 100000
set_option maxHeartbeats 4000000
attribute [local irreducible] bB cH
section
variable {l:List TP} {m e:Nat}
theorem BV(hl:l.length<=65536){part:Nat->aF Ex}(hp:sD l m e 203 part)
  (hmono: ∀i x j,i<=l.length->part i= .ok x j->i<=j/\j<=l.length):sD l m e 166 (GF (aq l) part):=by
 intro i hi;unfold GF;cases hf:part i with
 |bad er j=>
  have c:=hp.bad hi hf;refine⟨aO,ah ..,ah ..,ai ..,eC.call mixed rfl ?_⟩;iterate 20 all_goals ((try conv=>whnf);try first|(with_reducible first|refine zY ?_|refine zN ?_|refine zT ?_|refine br (fun _=> ?_) (fun _=> ?_)|refine⟨rfl,?_⟩)|(refine c.bO rfl fun h=> ?_))
  exact aW (ai _ _)
 |ok x j=>
  have c:=hp.ok hi hf;have hj:=(hmono i x j hi hf).2;obtain⟨op,v,tb,nm,slot,kd,args⟩:=x;rw[bt]at c;dsimp only[aF.then];cases hs:cj (aq l) [105,115] j with
  |true=>
   have cg:=bG (m:=m) (e:=e) hl hs;rw[if_pos rfl];unfold aA;cases hn:cj (aq l) [110,111,116] (j+1)with
   |true=>
    have cn:=bG (m:=m) (e:=e) hl hn;rw[if_pos rfl];cases hm:cj (aq l) [110,117,108,108] (j+2)with
    |false=>
     have cm:=bh (m:=m) (e:=e) hl hm;rw[if_neg (by decide)];refine⟨aO,ah ..,ah ..,ai ..,eC.call mixed rfl ?_⟩;iterate 40 all_goals ((try conv=>whnf);try first|(with_reducible first|refine zY ?_|refine zN ?_|refine zT ?_|refine br (fun _=> ?_) (fun _=> ?_)|refine⟨rfl,?_⟩)|(refine c.call rfl ?_)|(refine cg.call rfl ?_)|(refine cn.call rfl ?_)|(refine dy cm rfl rfl rfl fun h=> ?_))
     exact aW (ai _ _)
    |true=>
     have cm:=aS (m:=m) (e:=e) hl hm;rw[if_pos rfl];refine⟨aO,ah ..,ah ..,aD _,eC.call mixed rfl ?_⟩;iterate 40 all_goals ((try conv=>whnf);try first|(with_reducible first|refine zY ?_|refine zN ?_|refine zT ?_|refine br (fun _=> ?_) (fun _=> ?_)|refine⟨rfl,?_⟩)|(refine c.call rfl ?_)|(refine cg.call rfl ?_)|(refine cn.call rfl ?_)|(refine aP cm rfl rfl rfl ?_))
     exact bT (cS (qe (x:= .mk op v tb nm slot kd args) rfl (.lit (aD (.mk op v tb nm slot kd args))))) rfl
   |false=>
    have cn:=bU (m:=m) (e:=e) hl hn;rw[if_neg (by decide)];cases hm:cj (aq l) [110,117,108,108] (j+1)with
    |false=>
     have cm:=bh (m:=m) (e:=e) hl hm;rw[if_neg (by decide)];refine⟨aO,ah ..,ah ..,ai ..,eC.call mixed rfl ?_⟩;iterate 40 all_goals ((try conv=>whnf);try first|(with_reducible first|refine zY ?_|refine zN ?_|refine zT ?_|refine br (fun _=> ?_) (fun _=> ?_)|refine⟨rfl,?_⟩)|(refine c.call rfl ?_)|(refine cg.call rfl ?_)|(refine cn.call rfl ?_)|(refine dy cm rfl rfl rfl fun h=> ?_))
     exact aW (ai _ _)
    |true=>
     have cm:=aS (m:=m) (e:=e) hl hm;rw[if_pos rfl];refine⟨aO,ah ..,ah ..,aD _,eC.call mixed rfl ?_⟩;iterate 40 all_goals ((try conv=>whnf);try first|(with_reducible first|refine zY ?_|refine zN ?_|refine zT ?_|refine br (fun _=> ?_) (fun _=> ?_)|refine⟨rfl,?_⟩)|(refine c.call rfl ?_)|(refine cg.call rfl ?_)|(refine cn.call rfl ?_)|(refine aP cm rfl rfl rfl ?_))
     exact bT (cS (qe (x:= .mk op v tb nm slot kd args) rfl (.lit (aD (.mk op v tb nm slot kd args))))) rfl
  |false=>
   have cg:=bU (m:=m) (e:=e) hl hs;have cp:=eS (l:=l) (m:=m) (e:=e) j;rw[if_neg (by decide)];unfold DE;rw[find?];cases lV:((l.getD j aC).1.t==[61])with
   |true=>
    rw[if_pos rfl];dsimp only;cases hk:((l.getD j aC).1.k==4)with
    |false=>
     have n4:((l.getD j aC).1.k !=4)=true:=by unfold bne;rw[hk];rfl
     rw[if_neg (by decide)];refine⟨aO,ah ..,ah ..,aD _,eC.call mixed rfl ?_⟩;iterate 60 all_goals ((try conv=>whnf);try first|(with_reducible first|refine zY ?_|refine zN ?_|refine zT ?_|refine br (fun _=> ?_) (fun _=> ?_)|refine⟨rfl,?_⟩)|(refine c.call rfl ?_)|(refine cg.call rfl ?_)|(refine cp.call rfl ?_)|(refine fI.call mixed rfl ?_))
     exact bT (.lit (aD (.mk op v tb nm slot kd args))) rfl
    |true=>
     have n4:((l.getD j aC).1.k !=4)=false:=by unfold bne;rw[hk];rfl
     have hlt:=bS hk (by decide);have e7:IntKind.i64.wrap ((j:Int)+1)=((j+1:Nat):Int):=bN (by omega);rw[if_pos rfl];cases BW:part (j+1)with
     |bad er k=>
      have c2:=hp.bad hlt BW;refine⟨aO,ah ..,ah ..,ai ..,eC.call mixed rfl ?_⟩;iterate 60 all_goals ((try conv=>whnf);try first|(with_reducible first|refine zY ?_|refine zN ?_|refine zT ?_|refine br (fun _=> ?_) (fun _=> ?_)|refine⟨rfl,?_⟩)|(refine c2.bO (by rw[e7];rfl) fun h=> ?_)|(refine c.call rfl ?_)|(refine cg.call rfl ?_)|(refine cp.call rfl ?_)|(refine fI.call mixed rfl ?_))
      exact aW (ai _ _)
     |ok y k=>
      have c2:=hp.ok hlt BW;obtain⟨fM,yv,fN,fO,bE,fP,bF⟩:=y;rw[bt]at c2;refine⟨aO,ah ..,ah ..,aD _,eC.call mixed rfl ?_⟩;iterate 60 all_goals ((try conv=>whnf);try first|(with_reducible first|refine zY ?_|refine zN ?_|refine zT ?_|refine br (fun _=> ?_) (fun _=> ?_)|refine⟨rfl,?_⟩)|(refine c.call rfl ?_)|(refine cg.call rfl ?_)|(refine cp.call rfl ?_)|(refine fI.call mixed rfl ?_)|(refine c2.call (by rw[e7];rfl) ?_))
      exact bT (cS (dW (x:= .mk op v tb nm slot kd args) (y:= .mk fM yv fN fO bE fP bF) rfl (.lit (aD (.mk op v tb nm slot kd args))) (.lit (aD (.mk fM yv fN fO bE fP bF))))) rfl
   |false=>
    rw[if_neg (by decide)];rw[find?];cases rH:((l.getD j aC).1.t==[60,62])with
    |true=>
     rw[if_pos rfl];dsimp only;cases hk:((l.getD j aC).1.k==4)with
     |false=>
      have n4:((l.getD j aC).1.k !=4)=true:=by unfold bne;rw[hk];rfl
      rw[if_neg (by decide)];refine⟨aO,ah ..,ah ..,aD _,eC.call mixed rfl ?_⟩;iterate 60 all_goals ((try conv=>whnf);try first|(with_reducible first|refine zY ?_|refine zN ?_|refine zT ?_|refine br (fun _=> ?_) (fun _=> ?_)|refine⟨rfl,?_⟩)|(refine c.call rfl ?_)|(refine cg.call rfl ?_)|(refine cp.call rfl ?_)|(refine fI.call mixed rfl ?_))
      exact bT (.lit (aD (.mk op v tb nm slot kd args))) rfl
     |true=>
      have n4:((l.getD j aC).1.k !=4)=false:=by unfold bne;rw[hk];rfl
      have hlt:=bS hk (by decide);have e7:IntKind.i64.wrap ((j:Int)+1)=((j+1:Nat):Int):=bN (by omega);rw[if_pos rfl];cases BW:part (j+1)with
      |bad er k=>
       have c2:=hp.bad hlt BW;refine⟨aO,ah ..,ah ..,ai ..,eC.call mixed rfl ?_⟩;iterate 60 all_goals ((try conv=>whnf);try first|(with_reducible first|refine zY ?_|refine zN ?_|refine zT ?_|refine br (fun _=> ?_) (fun _=> ?_)|refine⟨rfl,?_⟩)|(refine c2.bO (by rw[e7];rfl) fun h=> ?_)|(refine c.call rfl ?_)|(refine cg.call rfl ?_)|(refine cp.call rfl ?_)|(refine fI.call mixed rfl ?_))
       exact aW (ai _ _)
      |ok y k=>
       have c2:=hp.ok hlt BW;obtain⟨fM,yv,fN,fO,bE,fP,bF⟩:=y;rw[bt]at c2;refine⟨aO,ah ..,ah ..,aD _,eC.call mixed rfl ?_⟩;iterate 60 all_goals ((try conv=>whnf);try first|(with_reducible first|refine zY ?_|refine zN ?_|refine zT ?_|refine br (fun _=> ?_) (fun _=> ?_)|refine⟨rfl,?_⟩)|(refine c.call rfl ?_)|(refine cg.call rfl ?_)|(refine cp.call rfl ?_)|(refine fI.call mixed rfl ?_)|(refine c2.call (by rw[e7];rfl) ?_))
       exact bT (cS (dW (x:= .mk op v tb nm slot kd args) (y:= .mk fM yv fN fO bE fP bF) rfl (.lit (aD (.mk op v tb nm slot kd args))) (.lit (aD (.mk fM yv fN fO bE fP bF))))) rfl
    |false=>
     rw[if_neg (by decide)];rw[find?];cases vO:((l.getD j aC).1.t==[60])with
     |true=>
      rw[if_pos rfl];dsimp only;cases hk:((l.getD j aC).1.k==4)with
      |false=>
       have n4:((l.getD j aC).1.k !=4)=true:=by unfold bne;rw[hk];rfl
       rw[if_neg (by decide)];refine⟨aO,ah ..,ah ..,aD _,eC.call mixed rfl ?_⟩;iterate 60 all_goals ((try conv=>whnf);try first|(with_reducible first|refine zY ?_|refine zN ?_|refine zT ?_|refine br (fun _=> ?_) (fun _=> ?_)|refine⟨rfl,?_⟩)|(refine c.call rfl ?_)|(refine cg.call rfl ?_)|(refine cp.call rfl ?_)|(refine fI.call mixed rfl ?_))
       exact bT (.lit (aD (.mk op v tb nm slot kd args))) rfl
      |true=>
       have n4:((l.getD j aC).1.k !=4)=false:=by unfold bne;rw[hk];rfl
       have hlt:=bS hk (by decide);have e7:IntKind.i64.wrap ((j:Int)+1)=((j+1:Nat):Int):=bN (by omega);rw[if_pos rfl];cases BW:part (j+1)with
       |bad er k=>
        have c2:=hp.bad hlt BW;refine⟨aO,ah ..,ah ..,ai ..,eC.call mixed rfl ?_⟩;iterate 60 all_goals ((try conv=>whnf);try first|(with_reducible first|refine zY ?_|refine zN ?_|refine zT ?_|refine br (fun _=> ?_) (fun _=> ?_)|refine⟨rfl,?_⟩)|(refine c2.bO (by rw[e7];rfl) fun h=> ?_)|(refine c.call rfl ?_)|(refine cg.call rfl ?_)|(refine cp.call rfl ?_)|(refine fI.call mixed rfl ?_))
        exact aW (ai _ _)
       |ok y k=>
        have c2:=hp.ok hlt BW;obtain⟨fM,yv,fN,fO,bE,fP,bF⟩:=y;rw[bt]at c2;refine⟨aO,ah ..,ah ..,aD _,eC.call mixed rfl ?_⟩;iterate 60 all_goals ((try conv=>whnf);try first|(with_reducible first|refine zY ?_|refine zN ?_|refine zT ?_|refine br (fun _=> ?_) (fun _=> ?_)|refine⟨rfl,?_⟩)|(refine c.call rfl ?_)|(refine cg.call rfl ?_)|(refine cp.call rfl ?_)|(refine fI.call mixed rfl ?_)|(refine c2.call (by rw[e7];rfl) ?_))
        exact bT (cS (dW (x:= .mk op v tb nm slot kd args) (y:= .mk fM yv fN fO bE fP bF) rfl (.lit (aD (.mk op v tb nm slot kd args))) (.lit (aD (.mk fM yv fN fO bE fP bF))))) rfl
     |false=>
      rw[if_neg (by decide)];rw[find?];cases Y0:((l.getD j aC).1.t==[60,61])with
      |true=>
       rw[if_pos rfl];dsimp only;cases hk:((l.getD j aC).1.k==4)with
       |false=>
        have n4:((l.getD j aC).1.k !=4)=true:=by unfold bne;rw[hk];rfl
        rw[if_neg (by decide)];refine⟨aO,ah ..,ah ..,aD _,eC.call mixed rfl ?_⟩;iterate 60 all_goals ((try conv=>whnf);try first|(with_reducible first|refine zY ?_|refine zN ?_|refine zT ?_|refine br (fun _=> ?_) (fun _=> ?_)|refine⟨rfl,?_⟩)|(refine c.call rfl ?_)|(refine cg.call rfl ?_)|(refine cp.call rfl ?_)|(refine fI.call mixed rfl ?_))
        exact bT (.lit (aD (.mk op v tb nm slot kd args))) rfl
       |true=>
        have n4:((l.getD j aC).1.k !=4)=false:=by unfold bne;rw[hk];rfl
        have hlt:=bS hk (by decide);have e7:IntKind.i64.wrap ((j:Int)+1)=((j+1:Nat):Int):=bN (by omega);rw[if_pos rfl];cases BW:part (j+1)with
        |bad er k=>
         have c2:=hp.bad hlt BW;refine⟨aO,ah ..,ah ..,ai ..,eC.call mixed rfl ?_⟩;iterate 60 all_goals ((try conv=>whnf);try first|(with_reducible first|refine zY ?_|refine zN ?_|refine zT ?_|refine br (fun _=> ?_) (fun _=> ?_)|refine⟨rfl,?_⟩)|(refine c2.bO (by rw[e7];rfl) fun h=> ?_)|(refine c.call rfl ?_)|(refine cg.call rfl ?_)|(refine cp.call rfl ?_)|(refine fI.call mixed rfl ?_))
         exact aW (ai _ _)
        |ok y k=>
         have c2:=hp.ok hlt BW;obtain⟨fM,yv,fN,fO,bE,fP,bF⟩:=y;rw[bt]at c2;refine⟨aO,ah ..,ah ..,aD _,eC.call mixed rfl ?_⟩;iterate 60 all_goals ((try conv=>whnf);try first|(with_reducible first|refine zY ?_|refine zN ?_|refine zT ?_|refine br (fun _=> ?_) (fun _=> ?_)|refine⟨rfl,?_⟩)|(refine c.call rfl ?_)|(refine cg.call rfl ?_)|(refine cp.call rfl ?_)|(refine fI.call mixed rfl ?_)|(refine c2.call (by rw[e7];rfl) ?_))
         exact bT (cS (dW (x:= .mk op v tb nm slot kd args) (y:= .mk fM yv fN fO bE fP bF) rfl (.lit (aD (.mk op v tb nm slot kd args))) (.lit (aD (.mk fM yv fN fO bE fP bF))))) rfl
      |false=>
       rw[if_neg (by decide)];rw[find?];cases Y1:((l.getD j aC).1.t==[62])with
       |true=>
        rw[if_pos rfl];dsimp only;cases hk:((l.getD j aC).1.k==4)with
        |false=>
         have n4:((l.getD j aC).1.k !=4)=true:=by unfold bne;rw[hk];rfl
         rw[if_neg (by decide)];refine⟨aO,ah ..,ah ..,aD _,eC.call mixed rfl ?_⟩;iterate 60 all_goals ((try conv=>whnf);try first|(with_reducible first|refine zY ?_|refine zN ?_|refine zT ?_|refine br (fun _=> ?_) (fun _=> ?_)|refine⟨rfl,?_⟩)|(refine c.call rfl ?_)|(refine cg.call rfl ?_)|(refine cp.call rfl ?_)|(refine fI.call mixed rfl ?_))
         exact bT (.lit (aD (.mk op v tb nm slot kd args))) rfl
        |true=>
         have n4:((l.getD j aC).1.k !=4)=false:=by unfold bne;rw[hk];rfl
         have hlt:=bS hk (by decide);have e7:IntKind.i64.wrap ((j:Int)+1)=((j+1:Nat):Int):=bN (by omega);rw[if_pos rfl];cases BW:part (j+1)with
         |bad er k=>
          have c2:=hp.bad hlt BW;refine⟨aO,ah ..,ah ..,ai ..,eC.call mixed rfl ?_⟩;iterate 60 all_goals ((try conv=>whnf);try first|(with_reducible first|refine zY ?_|refine zN ?_|refine zT ?_|refine br (fun _=> ?_) (fun _=> ?_)|refine⟨rfl,?_⟩)|(refine c2.bO (by rw[e7];rfl) fun h=> ?_)|(refine c.call rfl ?_)|(refine cg.call rfl ?_)|(refine cp.call rfl ?_)|(refine fI.call mixed rfl ?_))
          exact aW (ai _ _)
         |ok y k=>
          have c2:=hp.ok hlt BW;obtain⟨fM,yv,fN,fO,bE,fP,bF⟩:=y;rw[bt]at c2;refine⟨aO,ah ..,ah ..,aD _,eC.call mixed rfl ?_⟩;iterate 60 all_goals ((try conv=>whnf);try first|(with_reducible first|refine zY ?_|refine zN ?_|refine zT ?_|refine br (fun _=> ?_) (fun _=> ?_)|refine⟨rfl,?_⟩)|(refine c.call rfl ?_)|(refine cg.call rfl ?_)|(refine cp.call rfl ?_)|(refine fI.call mixed rfl ?_)|(refine c2.call (by rw[e7];rfl) ?_))
          exact bT (cS (dW (x:= .mk op v tb nm slot kd args) (y:= .mk fM yv fN fO bE fP bF) rfl (.lit (aD (.mk op v tb nm slot kd args))) (.lit (aD (.mk fM yv fN fO bE fP bF))))) rfl
       |false=>
        rw[if_neg (by decide)];rw[find?];cases Y2:((l.getD j aC).1.t==[62,61])with
        |true=>
         rw[if_pos rfl];dsimp only;cases hk:((l.getD j aC).1.k==4)with
         |false=>
          have n4:((l.getD j aC).1.k !=4)=true:=by unfold bne;rw[hk];rfl
          rw[if_neg (by decide)];refine⟨aO,ah ..,ah ..,aD _,eC.call mixed rfl ?_⟩;iterate 60 all_goals ((try conv=>whnf);try first|(with_reducible first|refine zY ?_|refine zN ?_|refine zT ?_|refine br (fun _=> ?_) (fun _=> ?_)|refine⟨rfl,?_⟩)|(refine c.call rfl ?_)|(refine cg.call rfl ?_)|(refine cp.call rfl ?_)|(refine fI.call mixed rfl ?_))
          exact bT (.lit (aD (.mk op v tb nm slot kd args))) rfl
         |true=>
          have n4:((l.getD j aC).1.k !=4)=false:=by unfold bne;rw[hk];rfl
          have hlt:=bS hk (by decide);have e7:IntKind.i64.wrap ((j:Int)+1)=((j+1:Nat):Int):=bN (by omega);rw[if_pos rfl];cases BW:part (j+1)with
          |bad er k=>
           have c2:=hp.bad hlt BW;refine⟨aO,ah ..,ah ..,ai ..,eC.call mixed rfl ?_⟩;iterate 60 all_goals ((try conv=>whnf);try first|(with_reducible first|refine zY ?_|refine zN ?_|refine zT ?_|refine br (fun _=> ?_) (fun _=> ?_)|refine⟨rfl,?_⟩)|(refine c2.bO (by rw[e7];rfl) fun h=> ?_)|(refine c.call rfl ?_)|(refine cg.call rfl ?_)|(refine cp.call rfl ?_)|(refine fI.call mixed rfl ?_))
           exact aW (ai _ _)
          |ok y k=>
           have c2:=hp.ok hlt BW;obtain⟨fM,yv,fN,fO,bE,fP,bF⟩:=y;rw[bt]at c2;refine⟨aO,ah ..,ah ..,aD _,eC.call mixed rfl ?_⟩;iterate 60 all_goals ((try conv=>whnf);try first|(with_reducible first|refine zY ?_|refine zN ?_|refine zT ?_|refine br (fun _=> ?_) (fun _=> ?_)|refine⟨rfl,?_⟩)|(refine c.call rfl ?_)|(refine cg.call rfl ?_)|(refine cp.call rfl ?_)|(refine fI.call mixed rfl ?_)|(refine c2.call (by rw[e7];rfl) ?_))
           exact bT (cS (dW (x:= .mk op v tb nm slot kd args) (y:= .mk fM yv fN fO bE fP bF) rfl (.lit (aD (.mk op v tb nm slot kd args))) (.lit (aD (.mk fM yv fN fO bE fP bF))))) rfl
        |false=>
         rw[if_neg (by decide)];rw[find?];dsimp only;refine⟨aO,ah ..,ah ..,aD _,eC.call mixed rfl ?_⟩;iterate 60 all_goals ((try conv=>whnf);try first|(with_reducible first|refine zY ?_|refine zN ?_|refine zT ?_|refine br (fun _=> ?_) (fun _=> ?_)|refine⟨rfl,?_⟩)|(refine c.call rfl ?_)|(refine cg.call rfl ?_)|(refine cp.call rfl ?_)|(refine fI.call mixed rfl ?_))
         all_goals exact bT (.lit (aD (.mk op v tb nm slot kd args))) rfl
end
end Go.Proofs.YtbjifmbemdhndaaGreatDoor
namespace Go.Proofs.YtbjifmbemdhndaaGreatDoor
open Ab Go.RowKit
set_option maxRecDepth 100000
section
def oN{α:Type}(n:Nat)(f:Nat->aF α):Prop:= ∀i x j,i<=n->f i= .ok x j->i<=j/\j<=n
theorem then_ok{α β:Type}{r:aF α}{f:α->Nat->aF β}{y:β}{k:Nat}(h:r.then f= .ok y k): ∃x j,r= .ok x j/\f x j= .ok y k:=by
 cases r with
 |ok x j=>exact⟨x,j,rfl,h⟩
 |bad e j=>cases h
section
variable {l:List TP}
theorem gB{s:List UInt8}:oN l.length (aA (aq l) s):=fun i x j hi h=>by
 unfold aA at h;split at h
 ·rename_i hb
  cases h
  have:=aI hb;omega
 ·cases h
theorem cT{r:List UInt8->Bool}:oN l.length (de (aq l) r):=fun i x j hi h=>by
 unfold de at h;split at h
 ·rename_i hb
  cases h
  have:=bS (l:=l) (k:=1) (Bool.and_eq_true_iff.1 hb).1 (by decide);omega
 ·cases h
theorem zX{r:List UInt8->Bool}:oN l.length (rm (aq l) r):=fun i x j hi h=>by
 unfold rm at h;obtain⟨s,k,h1,h2⟩:=then_ok h;have a:=cT i s k hi h1;split at h2
 ·rename_i hb
  have:=aI hb;obtain⟨t,q,h3,h4⟩:=then_ok h2;have b:=cT (k+1) t q (by omega) h3;cases h4
  omega
 ·cases h2
  exact a
theorem uI{ops:Fu}{part:Nat->aF Ex}(hp:oN l.length part): ∀(f:Nat) (x:Ex),oN l.length (dh (aq l) ops part f x)
 |0,x,i,y,j,hi,h=>by
  rw[dh]at h;cases h
  omega
 |f+1,x,i,y,j,hi,h=>by
  rw[dh]at h;split at h
  ·cases h;omega
  ·rename_i op hop
   have hlt:i<l.length:=by
    unfold lT at hop;split at hop
    ·rename_i hk
     rcases Bool.or_eq_true_iff.1 hk with h'|h'
     ·exact bS h' (by decide)
     ·exact bS h' (by decide)
    ·cases hop
   obtain⟨z,k,h1,h2⟩:=then_ok h;have a:=hp (i+1) z k hlt h1;have b:=uI hp f _ k y j a.2 h2;omega
theorem jo{ops:Fu}{part:Nat->aF Ex}{n:Nat}(hp:oN l.length part):oN l.length (iA (aq l) n ops part):=fun i x j hi h=>by
 unfold iA at h;obtain⟨y,k,h1,h2⟩:=then_ok h;have a:=hp i y k hi h1;have b:=uI hp n y k x j a.2 h2;omega
structure xH(n:Nat)(L:Lv):Prop where
 expr:oN n L.expr
 R3:oN n L.R3
 uW:oN n L.uW
 cmp:oN n L.cmp
 sum:oN n L.sum
 prod:oN n L.prod
 unary:oN n L.unary
 tJ:oN n L.tJ
theorem KQ{L:Lv}{op:Int}(hL:xH l.length L):oN l.length (wC (aq l) L op):=fun i x j hi h=>by
 unfold wC at h;split at h
 ·rename_i h1
  have:=aI h1;split at h
  ·rename_i h2
   have:=aI (Bool.and_eq_true_iff.1 h2).2;obtain⟨y,k,h3,h4⟩:=then_ok h;have a:=gB (i+3) y k (by omega) h3;cases h4
   omega
  ·obtain⟨y,k,h3,h4⟩:=then_ok h
   have a:=hL.expr (i+2) y k (by omega) h3;obtain⟨z,q,h5,h6⟩:=then_ok h4;have b:=gB k z q (by omega) h5;cases h6
   omega
 ·cases h
theorem yL{r:List UInt8->Bool}{dn:Option Lv}(hd: ∀L,dn=some L->xH l.length L):oN l.length (oC.rq (aq l) r dn):=fun i x j hi h=>by
 unfold oC.rq at h;split at h
 ·rename_i hb
  have:=aI hb;unfold kH at h;cases hdn:dn with
  |none=>rw[hdn]at h;cases h
  |some L=>
   rw[hdn]at h;obtain⟨y,k,h3,h4⟩:=then_ok h;have a:=(hd L hdn).expr (i+1) y k (by omega) h3;obtain⟨z,q,h5,h6⟩:=then_ok h4;have b:=gB k z q (by omega) h5;cases h6
   omega
 ·exact zX i x j hi h
theorem BX{r:List UInt8->Bool}{dn:Option Lv}(hd: ∀L,dn=some L->xH l.length L):oN l.length (oC (aq l) r dn):=fun i x j hi h=>by
 unfold oC at h;split at h
 ·rename_i hk
  have:=bS (l:=l) hk (by decide);split at h
  ·cases h
  ·cases h;omega
 ·split at h
  ·rename_i hk
   have:=bS (l:=l) hk (by decide);cases h;omega
  ·split at h
   ·rename_i hk
    have:=bS (l:=l) hk (by decide);split at h
    ·cases h;omega
    ·split at h
     ·unfold kH at h
      cases hdn:dn with
      |none=>rw[hdn]at h;cases h
      |some L=>
       rw[hdn]at h;exact KQ (hd L hdn) i x j hi h
     ·exact yL hd i x j hi h
   ·exact yL hd i x j hi h
theorem yM{dn:Option Lv}{tJ:Nat->aF Ex}(hp:oN l.length tJ)(hd: ∀L,dn=some L->xH l.length L):oN l.length (tK (aq l) dn tJ):=fun i x j hi h=>by
 unfold tK at h;split at h
 ·rename_i hb
  have:=aI hb;split at h
  ·rename_i hk
   have:=bS (l:=l) hk (by decide);cases h;omega
  ·unfold kH at h
   cases hdn:dn with
   |none=>rw[hdn]at h;cases h
   |some L=>
    rw[hdn]at h;obtain⟨y,k,h3,h4⟩:=then_ok h;have a:=(hd L hdn).unary (i+1) y k (by omega) h3;cases h4
    omega
 ·exact hp i x j hi h
theorem Fy{dn:Option Lv}{cmp:Nat->aF Ex}(hp:oN l.length cmp)(hd: ∀L,dn=some L->xH l.length L):oN l.length (GD (aq l) dn cmp):=fun i x j hi h=>by
 unfold GD at h;split at h
 ·rename_i hb
  have:=aI hb;unfold kH at h;cases hdn:dn with
  |none=>rw[hdn]at h;cases h
  |some L=>
   rw[hdn]at h;obtain⟨y,k,h3,h4⟩:=then_ok h;have a:=(hd L hdn).uW (i+1) y k (by omega) h3;cases h4
   omega
 ·exact hp i x j hi h
theorem Fz{part:Nat->aF Ex}(hp:oN l.length part):oN l.length (GF (aq l) part):=fun i x j hi h=>by
 unfold GF at h;obtain⟨y,k,h1,h2⟩:=then_ok h;have a:=hp i y k hi h1;split at h2
 ·rename_i hb
  have:=aI hb;split at h2
  ·rename_i Qr
   have:=aI Qr;obtain⟨z,q,h5,h6⟩:=then_ok h2;have b:=gB (k+2) z q (by omega) h5;cases h6
   omega
  ·obtain⟨z,q,h5,h6⟩:=then_ok h2
   have b:=gB (k+1) z q (by omega) h5;cases h6
   omega
 ·split at h2
  ·cases h2;exact a
  ·split at h2
   ·rename_i hk
    have:=bS (l:=l) hk (by decide);obtain⟨z,q,h5,h6⟩:=then_ok h2;have b:=hp (k+1) z q (by omega) h5;cases h6
    omega
   ·cases h2;exact a
theorem Ja{r:List UInt8->Bool}{n:Nat}{dn:Option Lv}(hd: ∀L,dn=some L->xH l.length L):xH l.length (IY (aq l) r n dn):=by
 have h1:=BX (l:=l) (r:=r) hd;have h2:=yM h1 hd;have h3:=jo (ops:=fK) (n:=n) h2;have h4:=jo (ops:=fJ) (n:=n) h3;have h5:=Fz h4;have h6:=Fy h5 hd;have h7:=jo (ops:=gV) (n:=n) h6;exact⟨jo h7,h7,h6,h5,h4,h3,h2,h1⟩
theorem DN{r:List UInt8->Bool}{n:Nat}: ∀d:Nat,xH l.length (R4 (aq l) r n d)
 |0=>Ja fun L h=>by cases h
 |d+1=>Ja fun L h=>by cases h;exact DN d
end
structure Um(l:List TP)(m e:Nat)(L:Lv):Prop where
 expr:sD l m e 22 L.expr
 uW:sD l m e 120 L.uW
 unary:sD l m e 240 L.unary
theorem Jb{l:List TP}{m e:Nat}(hl:l.length<=65536)(he:e<=40){dn:Option Lv}(h0:dn=none->e=40)(h1: ∀L,dn=some L->e<40/\Um l m (e+1) L/\xH l.length L):
  Um l m e (IY (aq l) (dP aH) l.length dn):=by
 have hd: ∀L,dn=some L->xH l.length L:=fun L h=>(h1 L h).2.2
 have f1:=BX (l:=l) (r:=dP aH) hd;have f2:=yM f1 hd;have f3:=jo (ops:=fK) (n:=l.length) f2;have f4:=jo (ops:=fJ) (n:=l.length) f3;have f5:=Fz f4;have f6:=Fy f5 hd;have f7:=jo (ops:=gV) (n:=l.length) f6;have c1:=I8 (m:=m) hl he h0 fun L h=>⟨(h1 L h).1,(h1 L h).2.1.expr⟩
 have c2:=GK hl he h0 (fun L h=>⟨(h1 L h).1,(h1 L h).2.1.unary⟩) c1;have c3:=BU hl c2 f2;have c4:=KP hl c3 f3;have c5:=BV hl c4 f4;have c6:=KM hl he h0 (fun L h=>⟨(h1 L h).1,(h1 L h).2.1.uW⟩) c5;have c7:=KO hl c6 f6;have c8:=I9 hl c7 f7;exact⟨c8,c6,c2⟩
theorem Jc{l:List TP}{m:Nat}(hl:l.length<=65536): ∀(d e:Nat),e+d=40->Um l m e (R4 (aq l) (dP aH) l.length d)
 |0,e,h=>Jb hl (by omega) (fun _=>by omega) fun L h=>by cases h
 |d+1,e,h=>Jb hl (by omega) (fun h=>by cases h) fun L h'=>by cases h';exact⟨by omega,Jc hl d (e+1) (by omega),DN d⟩
end
end Go.Proofs.YtbjifmbemdhndaaGreatDoor
