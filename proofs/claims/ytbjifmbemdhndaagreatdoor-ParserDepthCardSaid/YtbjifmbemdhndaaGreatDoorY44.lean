/- Parts of the proof of PParserDepth, one behind the other, with short names. -/
import Derived.Test.YtbjifmbemdhndaaGreatDoorY43
import Derived.Test.YtbjifmbemdhndaaGreatDoorY42
set_option linter.unusedVariables false
set_option linter.unusedSimpArgs false
namespace Go.Proofs.YtbjifmbemdhndaaGreatDoor
open Ab Go.RowKit
set_option maxRecDepth 100000
set_option maxHeartbeats 4000000
attribute [local irreducible] aO bx
section
variable {l:List TP} {m e:Nat}
theorem AZ(hl:l.length<=65536){part:Nat->cH Ex}(hp:rU l m e 203 part)
  (hmono: ∀i x j,i<=l.length->part i= .ok x j->i<=j/\j<=l.length):rU l m e 166 (xZ (aX l) part):=by
 intro i hi;unfold xZ;cases hf:part i with
 |bad er j=>
  have c:=hp.bad hi hf;refine⟨aV,ai ..,ai ..,av ..,dP.call mixed rfl ?_⟩;iterate 20 all_goals ((try conv=>whnf);try first|(with_reducible first|refine zY ?_|refine zN ?_|refine zT ?_|refine br (fun _=> ?_) (fun _=> ?_)|refine⟨rfl,?_⟩)|(refine c.cZ rfl fun h=> ?_))
  exact cI (av _ _)
 |ok x j=>
  have c:=hp.ok hi hf;have hj:=(hmono i x j hi hf).2;obtain⟨op,v,tb,nm,slot,kd,args⟩:=x;rw[aB]at c;dsimp only[cH.then];cases hs:fM (aX l) [105,115] j with
  |true=>
   have cg:=qO (m:=m) (e:=e) hl hs;rw[if_pos rfl];unfold dX;cases hn:fM (aX l) [110,111,116] (j+1)with
   |true=>
    have cn:=qO (m:=m) (e:=e) hl hn;rw[if_pos rfl];cases hm:fM (aX l) [110,117,108,108] (j+2)with
    |false=>
     have cm:=kQ (m:=m) (e:=e) hl hm;rw[if_neg (by decide)];refine⟨aV,ai ..,ai ..,av ..,dP.call mixed rfl ?_⟩;iterate 40 all_goals ((try conv=>whnf);try first|(with_reducible first|refine zY ?_|refine zN ?_|refine zT ?_|refine br (fun _=> ?_) (fun _=> ?_)|refine⟨rfl,?_⟩)|(refine c.call rfl ?_)|(refine cg.call rfl ?_)|(refine cn.call rfl ?_)|(refine AJ cm rfl rfl rfl fun h=> ?_))
     exact cI (av _ _)
    |true=>
     have cm:=gq (m:=m) (e:=e) hl hm;rw[if_pos rfl];refine⟨aV,ai ..,ai ..,aq _,dP.call mixed rfl ?_⟩;iterate 40 all_goals ((try conv=>whnf);try first|(with_reducible first|refine zY ?_|refine zN ?_|refine zT ?_|refine br (fun _=> ?_) (fun _=> ?_)|refine⟨rfl,?_⟩)|(refine c.call rfl ?_)|(refine cg.call rfl ?_)|(refine cn.call rfl ?_)|(refine gp cm rfl rfl rfl ?_))
     exact cO (bX (oy (x:= .mk op v tb nm slot kd args) rfl (.lit (aq (.mk op v tb nm slot kd args))))) rfl
   |false=>
    have cn:=uQ (m:=m) (e:=e) hl hn;rw[if_neg (by decide)];cases hm:fM (aX l) [110,117,108,108] (j+1)with
    |false=>
     have cm:=kQ (m:=m) (e:=e) hl hm;rw[if_neg (by decide)];refine⟨aV,ai ..,ai ..,av ..,dP.call mixed rfl ?_⟩;iterate 40 all_goals ((try conv=>whnf);try first|(with_reducible first|refine zY ?_|refine zN ?_|refine zT ?_|refine br (fun _=> ?_) (fun _=> ?_)|refine⟨rfl,?_⟩)|(refine c.call rfl ?_)|(refine cg.call rfl ?_)|(refine cn.call rfl ?_)|(refine AJ cm rfl rfl rfl fun h=> ?_))
     exact cI (av _ _)
    |true=>
     have cm:=gq (m:=m) (e:=e) hl hm;rw[if_pos rfl];refine⟨aV,ai ..,ai ..,aq _,dP.call mixed rfl ?_⟩;iterate 40 all_goals ((try conv=>whnf);try first|(with_reducible first|refine zY ?_|refine zN ?_|refine zT ?_|refine br (fun _=> ?_) (fun _=> ?_)|refine⟨rfl,?_⟩)|(refine c.call rfl ?_)|(refine cg.call rfl ?_)|(refine cn.call rfl ?_)|(refine gp cm rfl rfl rfl ?_))
     exact cO (bX (oy (x:= .mk op v tb nm slot kd args) rfl (.lit (aq (.mk op v tb nm slot kd args))))) rfl
  |false=>
   have cg:=uQ (m:=m) (e:=e) hl hs;have cp:=iV (l:=l) (m:=m) (e:=e) j;rw[if_neg (by decide)];unfold BY;rw[find?];cases oY:((l.getD j aH).1.t==[61])with
   |true=>
    rw[if_pos rfl];dsimp only;cases hk:((l.getD j aH).1.k==4)with
    |false=>
     have n4:((l.getD j aH).1.k !=4)=true:=by unfold bne;rw[hk];rfl
     rw[if_neg (by decide)];refine⟨aV,ai ..,ai ..,aq _,dP.call mixed rfl ?_⟩;iterate 60 all_goals ((try conv=>whnf);try first|(with_reducible first|refine zY ?_|refine zN ?_|refine zT ?_|refine br (fun _=> ?_) (fun _=> ?_)|refine⟨rfl,?_⟩)|(refine c.call rfl ?_)|(refine cg.call rfl ?_)|(refine cp.call rfl ?_)|(refine eX.call mixed rfl ?_))
     exact cO (.lit (aq (.mk op v tb nm slot kd args))) rfl
    |true=>
     have n4:((l.getD j aH).1.k !=4)=false:=by unfold bne;rw[hk];rfl
     have hlt:=cD hk (by decide);have e7:IntKind.i64.wrap ((j:Int)+1)=((j+1:Nat):Int):=bL (by omega);rw[if_pos rfl];cases A4:part (j+1)with
     |bad er k=>
      have c2:=hp.bad hlt A4;refine⟨aV,ai ..,ai ..,av ..,dP.call mixed rfl ?_⟩;iterate 60 all_goals ((try conv=>whnf);try first|(with_reducible first|refine zY ?_|refine zN ?_|refine zT ?_|refine br (fun _=> ?_) (fun _=> ?_)|refine⟨rfl,?_⟩)|(refine c2.cZ (by rw[e7];rfl) fun h=> ?_)|(refine c.call rfl ?_)|(refine cg.call rfl ?_)|(refine cp.call rfl ?_)|(refine eX.call mixed rfl ?_))
      exact cI (av _ _)
     |ok y k=>
      have c2:=hp.ok hlt A4;obtain⟨eY,yv,eZ,fc,aY,fe,aZ⟩:=y;rw[aB]at c2;refine⟨aV,ai ..,ai ..,aq _,dP.call mixed rfl ?_⟩;iterate 60 all_goals ((try conv=>whnf);try first|(with_reducible first|refine zY ?_|refine zN ?_|refine zT ?_|refine br (fun _=> ?_) (fun _=> ?_)|refine⟨rfl,?_⟩)|(refine c.call rfl ?_)|(refine cg.call rfl ?_)|(refine cp.call rfl ?_)|(refine eX.call mixed rfl ?_)|(refine c2.call (by rw[e7];rfl) ?_))
      exact cO (bX (c9 (x:= .mk op v tb nm slot kd args) (y:= .mk eY yv eZ fc aY fe aZ) rfl (.lit (aq (.mk op v tb nm slot kd args))) (.lit (aq (.mk eY yv eZ fc aY fe aZ))))) rfl
   |false=>
    rw[if_neg (by decide)];rw[find?];cases yK:((l.getD j aH).1.t==[60,62])with
    |true=>
     rw[if_pos rfl];dsimp only;cases hk:((l.getD j aH).1.k==4)with
     |false=>
      have n4:((l.getD j aH).1.k !=4)=true:=by unfold bne;rw[hk];rfl
      rw[if_neg (by decide)];refine⟨aV,ai ..,ai ..,aq _,dP.call mixed rfl ?_⟩;iterate 60 all_goals ((try conv=>whnf);try first|(with_reducible first|refine zY ?_|refine zN ?_|refine zT ?_|refine br (fun _=> ?_) (fun _=> ?_)|refine⟨rfl,?_⟩)|(refine c.call rfl ?_)|(refine cg.call rfl ?_)|(refine cp.call rfl ?_)|(refine eX.call mixed rfl ?_))
      exact cO (.lit (aq (.mk op v tb nm slot kd args))) rfl
     |true=>
      have n4:((l.getD j aH).1.k !=4)=false:=by unfold bne;rw[hk];rfl
      have hlt:=cD hk (by decide);have e7:IntKind.i64.wrap ((j:Int)+1)=((j+1:Nat):Int):=bL (by omega);rw[if_pos rfl];cases A4:part (j+1)with
      |bad er k=>
       have c2:=hp.bad hlt A4;refine⟨aV,ai ..,ai ..,av ..,dP.call mixed rfl ?_⟩;iterate 60 all_goals ((try conv=>whnf);try first|(with_reducible first|refine zY ?_|refine zN ?_|refine zT ?_|refine br (fun _=> ?_) (fun _=> ?_)|refine⟨rfl,?_⟩)|(refine c2.cZ (by rw[e7];rfl) fun h=> ?_)|(refine c.call rfl ?_)|(refine cg.call rfl ?_)|(refine cp.call rfl ?_)|(refine eX.call mixed rfl ?_))
       exact cI (av _ _)
      |ok y k=>
       have c2:=hp.ok hlt A4;obtain⟨eY,yv,eZ,fc,aY,fe,aZ⟩:=y;rw[aB]at c2;refine⟨aV,ai ..,ai ..,aq _,dP.call mixed rfl ?_⟩;iterate 60 all_goals ((try conv=>whnf);try first|(with_reducible first|refine zY ?_|refine zN ?_|refine zT ?_|refine br (fun _=> ?_) (fun _=> ?_)|refine⟨rfl,?_⟩)|(refine c.call rfl ?_)|(refine cg.call rfl ?_)|(refine cp.call rfl ?_)|(refine eX.call mixed rfl ?_)|(refine c2.call (by rw[e7];rfl) ?_))
       exact cO (bX (c9 (x:= .mk op v tb nm slot kd args) (y:= .mk eY yv eZ fc aY fe aZ) rfl (.lit (aq (.mk op v tb nm slot kd args))) (.lit (aq (.mk eY yv eZ fc aY fe aZ))))) rfl
    |false=>
     rw[if_neg (by decide)];rw[find?];cases DD:((l.getD j aH).1.t==[60])with
     |true=>
      rw[if_pos rfl];dsimp only;cases hk:((l.getD j aH).1.k==4)with
      |false=>
       have n4:((l.getD j aH).1.k !=4)=true:=by unfold bne;rw[hk];rfl
       rw[if_neg (by decide)];refine⟨aV,ai ..,ai ..,aq _,dP.call mixed rfl ?_⟩;iterate 60 all_goals ((try conv=>whnf);try first|(with_reducible first|refine zY ?_|refine zN ?_|refine zT ?_|refine br (fun _=> ?_) (fun _=> ?_)|refine⟨rfl,?_⟩)|(refine c.call rfl ?_)|(refine cg.call rfl ?_)|(refine cp.call rfl ?_)|(refine eX.call mixed rfl ?_))
       exact cO (.lit (aq (.mk op v tb nm slot kd args))) rfl
      |true=>
       have n4:((l.getD j aH).1.k !=4)=false:=by unfold bne;rw[hk];rfl
       have hlt:=cD hk (by decide);have e7:IntKind.i64.wrap ((j:Int)+1)=((j+1:Nat):Int):=bL (by omega);rw[if_pos rfl];cases A4:part (j+1)with
       |bad er k=>
        have c2:=hp.bad hlt A4;refine⟨aV,ai ..,ai ..,av ..,dP.call mixed rfl ?_⟩;iterate 60 all_goals ((try conv=>whnf);try first|(with_reducible first|refine zY ?_|refine zN ?_|refine zT ?_|refine br (fun _=> ?_) (fun _=> ?_)|refine⟨rfl,?_⟩)|(refine c2.cZ (by rw[e7];rfl) fun h=> ?_)|(refine c.call rfl ?_)|(refine cg.call rfl ?_)|(refine cp.call rfl ?_)|(refine eX.call mixed rfl ?_))
        exact cI (av _ _)
       |ok y k=>
        have c2:=hp.ok hlt A4;obtain⟨eY,yv,eZ,fc,aY,fe,aZ⟩:=y;rw[aB]at c2;refine⟨aV,ai ..,ai ..,aq _,dP.call mixed rfl ?_⟩;iterate 60 all_goals ((try conv=>whnf);try first|(with_reducible first|refine zY ?_|refine zN ?_|refine zT ?_|refine br (fun _=> ?_) (fun _=> ?_)|refine⟨rfl,?_⟩)|(refine c.call rfl ?_)|(refine cg.call rfl ?_)|(refine cp.call rfl ?_)|(refine eX.call mixed rfl ?_)|(refine c2.call (by rw[e7];rfl) ?_))
        exact cO (bX (c9 (x:= .mk op v tb nm slot kd args) (y:= .mk eY yv eZ fc aY fe aZ) rfl (.lit (aq (.mk op v tb nm slot kd args))) (.lit (aq (.mk eY yv eZ fc aY fe aZ))))) rfl
     |false=>
      rw[if_neg (by decide)];rw[find?];cases Yq:((l.getD j aH).1.t==[60,61])with
      |true=>
       rw[if_pos rfl];dsimp only;cases hk:((l.getD j aH).1.k==4)with
       |false=>
        have n4:((l.getD j aH).1.k !=4)=true:=by unfold bne;rw[hk];rfl
        rw[if_neg (by decide)];refine⟨aV,ai ..,ai ..,aq _,dP.call mixed rfl ?_⟩;iterate 60 all_goals ((try conv=>whnf);try first|(with_reducible first|refine zY ?_|refine zN ?_|refine zT ?_|refine br (fun _=> ?_) (fun _=> ?_)|refine⟨rfl,?_⟩)|(refine c.call rfl ?_)|(refine cg.call rfl ?_)|(refine cp.call rfl ?_)|(refine eX.call mixed rfl ?_))
        exact cO (.lit (aq (.mk op v tb nm slot kd args))) rfl
       |true=>
        have n4:((l.getD j aH).1.k !=4)=false:=by unfold bne;rw[hk];rfl
        have hlt:=cD hk (by decide);have e7:IntKind.i64.wrap ((j:Int)+1)=((j+1:Nat):Int):=bL (by omega);rw[if_pos rfl];cases A4:part (j+1)with
        |bad er k=>
         have c2:=hp.bad hlt A4;refine⟨aV,ai ..,ai ..,av ..,dP.call mixed rfl ?_⟩;iterate 60 all_goals ((try conv=>whnf);try first|(with_reducible first|refine zY ?_|refine zN ?_|refine zT ?_|refine br (fun _=> ?_) (fun _=> ?_)|refine⟨rfl,?_⟩)|(refine c2.cZ (by rw[e7];rfl) fun h=> ?_)|(refine c.call rfl ?_)|(refine cg.call rfl ?_)|(refine cp.call rfl ?_)|(refine eX.call mixed rfl ?_))
         exact cI (av _ _)
        |ok y k=>
         have c2:=hp.ok hlt A4;obtain⟨eY,yv,eZ,fc,aY,fe,aZ⟩:=y;rw[aB]at c2;refine⟨aV,ai ..,ai ..,aq _,dP.call mixed rfl ?_⟩;iterate 60 all_goals ((try conv=>whnf);try first|(with_reducible first|refine zY ?_|refine zN ?_|refine zT ?_|refine br (fun _=> ?_) (fun _=> ?_)|refine⟨rfl,?_⟩)|(refine c.call rfl ?_)|(refine cg.call rfl ?_)|(refine cp.call rfl ?_)|(refine eX.call mixed rfl ?_)|(refine c2.call (by rw[e7];rfl) ?_))
         exact cO (bX (c9 (x:= .mk op v tb nm slot kd args) (y:= .mk eY yv eZ fc aY fe aZ) rfl (.lit (aq (.mk op v tb nm slot kd args))) (.lit (aq (.mk eY yv eZ fc aY fe aZ))))) rfl
      |false=>
       rw[if_neg (by decide)];rw[find?];cases Yr:((l.getD j aH).1.t==[62])with
       |true=>
        rw[if_pos rfl];dsimp only;cases hk:((l.getD j aH).1.k==4)with
        |false=>
         have n4:((l.getD j aH).1.k !=4)=true:=by unfold bne;rw[hk];rfl
         rw[if_neg (by decide)];refine⟨aV,ai ..,ai ..,aq _,dP.call mixed rfl ?_⟩;iterate 60 all_goals ((try conv=>whnf);try first|(with_reducible first|refine zY ?_|refine zN ?_|refine zT ?_|refine br (fun _=> ?_) (fun _=> ?_)|refine⟨rfl,?_⟩)|(refine c.call rfl ?_)|(refine cg.call rfl ?_)|(refine cp.call rfl ?_)|(refine eX.call mixed rfl ?_))
         exact cO (.lit (aq (.mk op v tb nm slot kd args))) rfl
        |true=>
         have n4:((l.getD j aH).1.k !=4)=false:=by unfold bne;rw[hk];rfl
         have hlt:=cD hk (by decide);have e7:IntKind.i64.wrap ((j:Int)+1)=((j+1:Nat):Int):=bL (by omega);rw[if_pos rfl];cases A4:part (j+1)with
         |bad er k=>
          have c2:=hp.bad hlt A4;refine⟨aV,ai ..,ai ..,av ..,dP.call mixed rfl ?_⟩;iterate 60 all_goals ((try conv=>whnf);try first|(with_reducible first|refine zY ?_|refine zN ?_|refine zT ?_|refine br (fun _=> ?_) (fun _=> ?_)|refine⟨rfl,?_⟩)|(refine c2.cZ (by rw[e7];rfl) fun h=> ?_)|(refine c.call rfl ?_)|(refine cg.call rfl ?_)|(refine cp.call rfl ?_)|(refine eX.call mixed rfl ?_))
          exact cI (av _ _)
         |ok y k=>
          have c2:=hp.ok hlt A4;obtain⟨eY,yv,eZ,fc,aY,fe,aZ⟩:=y;rw[aB]at c2;refine⟨aV,ai ..,ai ..,aq _,dP.call mixed rfl ?_⟩;iterate 60 all_goals ((try conv=>whnf);try first|(with_reducible first|refine zY ?_|refine zN ?_|refine zT ?_|refine br (fun _=> ?_) (fun _=> ?_)|refine⟨rfl,?_⟩)|(refine c.call rfl ?_)|(refine cg.call rfl ?_)|(refine cp.call rfl ?_)|(refine eX.call mixed rfl ?_)|(refine c2.call (by rw[e7];rfl) ?_))
          exact cO (bX (c9 (x:= .mk op v tb nm slot kd args) (y:= .mk eY yv eZ fc aY fe aZ) rfl (.lit (aq (.mk op v tb nm slot kd args))) (.lit (aq (.mk eY yv eZ fc aY fe aZ))))) rfl
       |false=>
        rw[if_neg (by decide)];rw[find?];cases Yt:((l.getD j aH).1.t==[62,61])with
        |true=>
         rw[if_pos rfl];dsimp only;cases hk:((l.getD j aH).1.k==4)with
         |false=>
          have n4:((l.getD j aH).1.k !=4)=true:=by unfold bne;rw[hk];rfl
          rw[if_neg (by decide)];refine⟨aV,ai ..,ai ..,aq _,dP.call mixed rfl ?_⟩;iterate 60 all_goals ((try conv=>whnf);try first|(with_reducible first|refine zY ?_|refine zN ?_|refine zT ?_|refine br (fun _=> ?_) (fun _=> ?_)|refine⟨rfl,?_⟩)|(refine c.call rfl ?_)|(refine cg.call rfl ?_)|(refine cp.call rfl ?_)|(refine eX.call mixed rfl ?_))
          exact cO (.lit (aq (.mk op v tb nm slot kd args))) rfl
         |true=>
          have n4:((l.getD j aH).1.k !=4)=false:=by unfold bne;rw[hk];rfl
          have hlt:=cD hk (by decide);have e7:IntKind.i64.wrap ((j:Int)+1)=((j+1:Nat):Int):=bL (by omega);rw[if_pos rfl];cases A4:part (j+1)with
          |bad er k=>
           have c2:=hp.bad hlt A4;refine⟨aV,ai ..,ai ..,av ..,dP.call mixed rfl ?_⟩;iterate 60 all_goals ((try conv=>whnf);try first|(with_reducible first|refine zY ?_|refine zN ?_|refine zT ?_|refine br (fun _=> ?_) (fun _=> ?_)|refine⟨rfl,?_⟩)|(refine c2.cZ (by rw[e7];rfl) fun h=> ?_)|(refine c.call rfl ?_)|(refine cg.call rfl ?_)|(refine cp.call rfl ?_)|(refine eX.call mixed rfl ?_))
           exact cI (av _ _)
          |ok y k=>
           have c2:=hp.ok hlt A4;obtain⟨eY,yv,eZ,fc,aY,fe,aZ⟩:=y;rw[aB]at c2;refine⟨aV,ai ..,ai ..,aq _,dP.call mixed rfl ?_⟩;iterate 60 all_goals ((try conv=>whnf);try first|(with_reducible first|refine zY ?_|refine zN ?_|refine zT ?_|refine br (fun _=> ?_) (fun _=> ?_)|refine⟨rfl,?_⟩)|(refine c.call rfl ?_)|(refine cg.call rfl ?_)|(refine cp.call rfl ?_)|(refine eX.call mixed rfl ?_)|(refine c2.call (by rw[e7];rfl) ?_))
           exact cO (bX (c9 (x:= .mk op v tb nm slot kd args) (y:= .mk eY yv eZ fc aY fe aZ) rfl (.lit (aq (.mk op v tb nm slot kd args))) (.lit (aq (.mk eY yv eZ fc aY fe aZ))))) rfl
        |false=>
         rw[if_neg (by decide)];rw[find?];dsimp only;refine⟨aV,ai ..,ai ..,aq _,dP.call mixed rfl ?_⟩;iterate 60 all_goals ((try conv=>whnf);try first|(with_reducible first|refine zY ?_|refine zN ?_|refine zT ?_|refine br (fun _=> ?_) (fun _=> ?_)|refine⟨rfl,?_⟩)|(refine c.call rfl ?_)|(refine cg.call rfl ?_)|(refine cp.call rfl ?_)|(refine eX.call mixed rfl ?_))
         all_goals exact cO (.lit (aq (.mk op v tb nm slot kd args))) rfl
end
end Go.Proofs.YtbjifmbemdhndaaGreatDoor
namespace Go.Proofs.YtbjifmbemdhndaaGreatDoor
open Ab Go.RowKit
set_option maxRecDepth 100000
section
def sY{α:Type}(n:Nat)(f:Nat->cH α):Prop:= ∀i x j,i<=n->f i= .ok x j->i<=j/\j<=n
theorem then_ok{α β:Type}{r:cH α}{f:α->Nat->cH β}{y:β}{k:Nat}(h:r.then f= .ok y k): ∃x j,r= .ok x j/\f x j= .ok y k:=by
 cases r with
 |ok x j=>exact⟨x,j,rfl,h⟩
 |bad e j=>cases h
section
variable {l:List TP}
theorem nZ{s:List UInt8}:sY l.length (dX (aX l) s):=fun i x j hi h=>by
 unfold dX at h;split at h
 ·rename_i hb
  cases h
  have:=gv hb;omega
 ·cases h
theorem A5{r:List UInt8->Bool}:sY l.length (kM (aX l) r):=fun i x j hi h=>by
 unfold kM at h;split at h
 ·rename_i hb
  cases h
  have:=cD (l:=l) (k:=1) (Bool.and_eq_true_iff.1 hb).1 (by decide);omega
 ·cases h
theorem JQ{r:List UInt8->Bool}:sY l.length (BZ (aX l) r):=fun i x j hi h=>by
 unfold BZ at h;obtain⟨s,k,h1,h2⟩:=then_ok h;have a:=A5 i s k hi h1;split at h2
 ·rename_i hb
  have:=gv hb;obtain⟨t,q,h3,h4⟩:=then_ok h2;have b:=A5 (k+1) t q (by omega) h3;cases h4
  omega
 ·cases h2
  exact a
theorem sN{ops:D2}{part:Nat->cH Ex}(hp:sY l.length part): ∀(f:Nat) (x:Ex),sY l.length (cB (aX l) ops part f x)
 |0,x,i,y,j,hi,h=>by
  rw[cB]at h;cases h
  omega
 |f+1,x,i,y,j,hi,h=>by
  rw[cB]at h;split at h
  ·cases h;omega
  ·rename_i op hop
   have hlt:i<l.length:=by
    unfold ie at hop;split at hop
    ·rename_i hk
     rcases Bool.or_eq_true_iff.1 hk with h'|h'
     ·exact cD h' (by decide)
     ·exact cD h' (by decide)
    ·cases hop
   obtain⟨z,k,h1,h2⟩:=then_ok h;have a:=hp (i+1) z k hlt h1;have b:=sN hp f _ k y j a.2 h2;omega
theorem iq{ops:D2}{part:Nat->cH Ex}{n:Nat}(hp:sY l.length part):sY l.length (eV (aX l) n ops part):=fun i x j hi h=>by
 unfold eV at h;obtain⟨y,k,h1,h2⟩:=then_ok h;have a:=hp i y k hi h1;have b:=sN hp n y k x j a.2 h2;omega
structure vJ(n:Nat)(L:Lv):Prop where
 expr:sY n L.expr
 GM:sY n L.GM
 iU:sY n L.iU
 cmp:sY n L.cmp
 sum:sY n L.sum
 prod:sY n L.prod
 unary:sY n L.unary
 lW:sY n L.lW
theorem JR{L:Lv}{op:Int}(hL:vJ l.length L):sY l.length (sU (aX l) L op):=fun i x j hi h=>by
 unfold sU at h;split at h
 ·rename_i h1
  have:=gv h1;split at h
  ·rename_i h2
   have:=gv (Bool.and_eq_true_iff.1 h2).2;obtain⟨y,k,h3,h4⟩:=then_ok h;have a:=nZ (i+3) y k (by omega) h3;cases h4
   omega
  ·obtain⟨y,k,h3,h4⟩:=then_ok h
   have a:=hL.expr (i+2) y k (by omega) h3;obtain⟨z,q,h5,h6⟩:=then_ok h4;have b:=nZ k z q (by omega) h5;cases h6
   omega
 ·cases h
theorem w7{r:List UInt8->Bool}{dn:Option Lv}(hd: ∀L,dn=some L->vJ l.length L):sY l.length (fN.lq (aX l) r dn):=fun i x j hi h=>by
 unfold fN.lq at h;split at h
 ·rename_i hb
  have:=gv hb;unfold je at h;cases hdn:dn with
  |none=>rw[hdn]at h;cases h
  |some L=>
   rw[hdn]at h;obtain⟨y,k,h3,h4⟩:=then_ok h;have a:=(hd L hdn).expr (i+1) y k (by omega) h3;obtain⟨z,q,h5,h6⟩:=then_ok h4;have b:=nZ k z q (by omega) h5;cases h6
   omega
 ·exact JQ i x j hi h
theorem A6{r:List UInt8->Bool}{dn:Option Lv}(hd: ∀L,dn=some L->vJ l.length L):sY l.length (fN (aX l) r dn):=fun i x j hi h=>by
 unfold fN at h;split at h
 ·rename_i hk
  have:=cD (l:=l) hk (by decide);split at h
  ·cases h
  ·cases h;omega
 ·split at h
  ·rename_i hk
   have:=cD (l:=l) hk (by decide);cases h;omega
  ·split at h
   ·rename_i hk
    have:=cD (l:=l) hk (by decide);split at h
    ·cases h;omega
    ·split at h
     ·unfold je at h
      cases hdn:dn with
      |none=>rw[hdn]at h;cases h
      |some L=>
       rw[hdn]at h;exact JR (hd L hdn) i x j hi h
     ·exact w7 hd i x j hi h
   ·exact w7 hd i x j hi h
theorem w8{dn:Option Lv}{lW:Nat->cH Ex}(hp:sY l.length lW)(hd: ∀L,dn=some L->vJ l.length L):sY l.length (mK (aX l) dn lW):=fun i x j hi h=>by
 unfold mK at h;split at h
 ·rename_i hb
  have:=gv hb;split at h
  ·rename_i hk
   have:=cD (l:=l) hk (by decide);cases h;omega
  ·unfold je at h
   cases hdn:dn with
   |none=>rw[hdn]at h;cases h
   |some L=>
    rw[hdn]at h;obtain⟨y,k,h3,h4⟩:=then_ok h;have a:=(hd L hdn).unary (i+1) y k (by omega) h3;cases h4
    omega
 ·exact hp i x j hi h
theorem Et{dn:Option Lv}{cmp:Nat->cH Ex}(hp:sY l.length cmp)(hd: ∀L,dn=some L->vJ l.length L):sY l.length (pL (aX l) dn cmp):=fun i x j hi h=>by
 unfold pL at h;split at h
 ·rename_i hb
  have:=gv hb;unfold je at h;cases hdn:dn with
  |none=>rw[hdn]at h;cases h
  |some L=>
   rw[hdn]at h;obtain⟨y,k,h3,h4⟩:=then_ok h;have a:=(hd L hdn).iU (i+1) y k (by omega) h3;cases h4
   omega
 ·exact hp i x j hi h
theorem Eu{part:Nat->cH Ex}(hp:sY l.length part):sY l.length (xZ (aX l) part):=fun i x j hi h=>by
 unfold xZ at h;obtain⟨y,k,h1,h2⟩:=then_ok h;have a:=hp i y k hi h1;split at h2
 ·rename_i hb
  have:=gv hb;split at h2
  ·rename_i LB
   have:=gv LB;obtain⟨z,q,h5,h6⟩:=then_ok h2;have b:=nZ (k+2) z q (by omega) h5;cases h6
   omega
  ·obtain⟨z,q,h5,h6⟩:=then_ok h2
   have b:=nZ (k+1) z q (by omega) h5;cases h6
   omega
 ·split at h2
  ·cases h2;exact a
  ·split at h2
   ·rename_i hk
    have:=cD (l:=l) hk (by decide);obtain⟨z,q,h5,h6⟩:=then_ok h2;have b:=hp (k+1) z q (by omega) h5;cases h6
    omega
   ·cases h2;exact a
theorem H7{r:List UInt8->Bool}{n:Nat}{dn:Option Lv}(hd: ∀L,dn=some L->vJ l.length L):vJ l.length (pM (aX l) r n dn):=by
 have h1:=A6 (l:=l) (r:=r) hd;have h2:=w8 h1 hd;have h3:=iq (ops:=eW) (n:=n) h2;have h4:=iq (ops:=eA) (n:=n) h3;have h5:=Eu h4;have h6:=Et h5 hd;have h7:=iq (ops:=gh) (n:=n) h6;exact⟨iq h7,h7,h6,h5,h4,h3,h2,h1⟩
theorem H8{r:List UInt8->Bool}{n:Nat}: ∀d:Nat,vJ l.length (lu (aX l) r n d)
 |0=>H7 fun L h=>by cases h
 |d+1=>H7 fun L h=>by cases h;exact H8 d
end
structure Ta(l:List TP)(m e:Nat)(L:Lv):Prop where
 expr:rU l m e 22 L.expr
 iU:rU l m e 120 L.iU
 unary:rU l m e 240 L.unary
theorem H9{l:List TP}{m e:Nat}(hl:l.length<=65536)(he:e<=40){dn:Option Lv}(h0:dn=none->e=40)(h1: ∀L,dn=some L->e<40/\Ta l m (e+1) L/\vJ l.length L):
  Ta l m e (pM (aX l) (sM cN) l.length dn):=by
 have hd: ∀L,dn=some L->vJ l.length L:=fun L h=>(h1 L h).2.2
 have f1:=A6 (l:=l) (r:=sM cN) hd;have f2:=w8 f1 hd;have f3:=iq (ops:=eW) (n:=l.length) f2;have f4:=iq (ops:=eA) (n:=l.length) f3;have f5:=Eu f4;have f6:=Et f5 hd;have f7:=iq (ops:=gh) (n:=l.length) f6;have c1:=HZ (m:=m) hl he h0 fun L h=>⟨(h1 L h).1,(h1 L h).2.1.expr⟩
 have c2:=FH hl he h0 (fun L h=>⟨(h1 L h).1,(h1 L h).2.1.unary⟩) c1;have c3:=AY hl c2 f2;have c4:=JP hl c3 f3;have c5:=AZ hl c4 f4;have c6:=Ju hl he h0 (fun L h=>⟨(h1 L h).1,(h1 L h).2.1.iU⟩) c5;have c7:=JO hl c6 f6;have c8:=H6 hl c7 f7;exact⟨c8,c6,c2⟩
theorem Ia{l:List TP}{m:Nat}(hl:l.length<=65536): ∀(d e:Nat),e+d=40->Ta l m e (lu (aX l) (sM cN) l.length d)
 |0,e,h=>H9 hl (by omega) (fun _=>by omega) fun L h=>by cases h
 |d+1,e,h=>H9 hl (by omega) (fun h=>by cases h) fun L h'=>by cases h';exact⟨by omega,Ia hl d (e+1) (by omega),H8 d⟩
end
end Go.Proofs.YtbjifmbemdhndaaGreatDoor
