/- Parts of the proof of PParserBlanks, one behind the other, with short names. -/
import Derived.Test.YtbjifmbemdhndaaGreatDoorZ30
set_option linter.unusedVariables false
set_option linter.unusedSimpArgs false
namespace Go.Proofs.YtbjifmbemdhndaaGreatDoor
open Ab Go.RowKit
set_option maxRecDepth 100000
set_option maxHeartbeats 4000000
attribute [local irreducible] bB cH
section
variable {l:List TP} {m e:Nat}
theorem I8(hl:l.length<=65536)(he:e<=40){dn:Option Lv}(h0:dn=none->e=40)(h1: ∀L,dn=some L->e<40/\sD l m (e+1) 22 L.expr):
  sD l m e 248 (oC (aq l) (dP aH) dn):=by
 intro i hi;have cp:=eS (l:=l) (m:=m) (e:=e) i;have e7:i<l.length->IntKind.i64.wrap ((i:Int)+1)=((i+1:Nat):Int):=fun h=>bN (by omega)
 have KN:=ry (l:=l) (m:=m) (e:=e) hl;have ci:=gW (l:=l) (m:=m) (e:=e) [40] i;have cw:=bM (l:=l) (m:=m) (e:=e) 241 i;have Xo:=bM (l:=l) (m:=m) (e:=e) 233 i;unfold oC;cases hk2:((l.getD i aC).1.k==2)with
 |true=>
  rw[if_pos rfl];have hlt:=bS hk2 (by decide);have e7:=e7 hlt;by_cases hn:9223372036854775807<(l.getD i aC).1.n
  ·rw[if_pos hn]
   have hd:decide ((9223372036854775807:Int)<((l.getD i aC).1.n:Int))=true:=decide_eq_true (by omega);refine⟨aO,ah ..,ah ..,ai ..,dA.call mixed rfl ?_⟩;iterate 30 all_goals ((try conv=>whnf);try first|(with_reducible first|refine zY ?_|refine zN ?_|refine zT ?_|refine br (fun _=> ?_) (fun _=> ?_)|refine⟨rfl,?_⟩)|(refine cp.call rfl ?_)|(refine Xo.bO rfl fun h=> ?_))
   exact aW (ai _ _)
  ·rw[if_neg hn]
   have hd:decide ((9223372036854775807:Int)<((l.getD i aC).1.n:Int))=false:=decide_eq_false (by omega);have e6:IntKind.i64.wrap ((l.getD i aC).1.n:Int)=((l.getD i aC).1.n:Int):=w8 (by omega) (by omega);have c:=qf ⟨2,IntKind.i64.wrap ((l.getD i aC).1.n:Int),[]⟩;unfold pV at c;rw[bt]at c;refine⟨aO,ah ..,ah ..,aD _,dA.call mixed rfl ?_⟩;iterate 30 all_goals ((try conv=>whnf);try first|(with_reducible first|refine zY ?_|refine zN ?_|refine zT ?_|refine br (fun _=> ?_) (fun _=> ?_)|refine⟨rfl,?_⟩|refine aj.call (c) ?_)|(refine cp.call rfl ?_))
   refine bT ?_ (by rw[e7];rfl);rw[e6];exact .lit (aD (pV ⟨2,((l.getD i aC).1.n:Int),[]⟩))
 |false=>
  rw[if_neg (by decide)];cases Nz:((l.getD i aC).1.k==3)with
  |true=>
   rw[if_pos rfl];have hlt:=bS Nz (by decide);have e7:=e7 hlt;have c:=qf ⟨3,0,(l.getD i aC).1.t⟩;unfold pV at c;rw[bt]at c;refine⟨aO,ah ..,ah ..,aD _,dA.call mixed rfl ?_⟩;iterate 30 all_goals ((try conv=>whnf);try first|(with_reducible first|refine zY ?_|refine zN ?_|refine zT ?_|refine br (fun _=> ?_) (fun _=> ?_)|refine⟨rfl,?_⟩|refine aj.call (c) ?_)|(refine cp.call rfl ?_))
   exact bT (.lit (aD (pV ⟨3,0,(l.getD i aC).1.t⟩))) (by rw[e7];rfl)
  |false=>
   rw[if_neg (by decide)];cases kn:((l.getD i aC).1.k==1)with
   |true=>
    rw[if_pos rfl];have hlt:=bS kn (by decide);have e7:=e7 hlt;unfold zP;cases hc0:((l.getD i aC).1.t==[116,114,117,101])with
    |true=>
     rw[if_pos rfl];have c:=qf ⟨1,1,[]⟩;unfold pV at c;rw[bt]at c;refine⟨aO,ah ..,ah ..,aD _,dA.call mixed rfl ?_⟩;iterate 40 all_goals ((try conv=>whnf);try first|(with_reducible first|refine zY ?_|refine zN ?_|refine zT ?_|refine br (fun _=> ?_) (fun _=> ?_)|refine⟨rfl,?_⟩|refine aj.call (c) ?_)|(refine cp.call rfl ?_)|(refine eZ.call mixed rfl ?_))
     exact bT (.lit (aD (pV ⟨1,1,[]⟩))) (by rw[e7];rfl)
    |false=>
     rw[if_neg (by decide)];cases x8:((l.getD i aC).1.t==[102,97,108,115,101])with
     |true=>
      rw[if_pos rfl];have c:=qf ⟨1,0,[]⟩;unfold pV at c;rw[bt]at c;refine⟨aO,ah ..,ah ..,aD _,dA.call mixed rfl ?_⟩;iterate 40 all_goals ((try conv=>whnf);try first|(with_reducible first|refine zY ?_|refine zN ?_|refine zT ?_|refine br (fun _=> ?_) (fun _=> ?_)|refine⟨rfl,?_⟩|refine aj.call (c) ?_)|(refine cp.call rfl ?_)|(refine eZ.call mixed rfl ?_))
      exact bT (.lit (aD (pV ⟨1,0,[]⟩))) (by rw[e7];rfl)
     |false=>
      rw[if_neg (by decide)];cases NB:((l.getD i aC).1.t==[110,117,108,108])with
      |true=>
       rw[if_pos rfl];have c:=qf Ot;unfold pV Ot at c;rw[bt]at c;refine⟨aO,ah ..,ah ..,aD _,dA.call mixed rfl ?_⟩;iterate 40 all_goals ((try conv=>whnf);try first|(with_reducible first|refine zY ?_|refine zN ?_|refine zT ?_|refine br (fun _=> ?_) (fun _=> ?_)|refine⟨rfl,?_⟩|refine aj.call (c) ?_)|(refine cp.call rfl ?_)|(refine eZ.call mixed rfl ?_))
       exact bT (.lit (aD (pV Ot))) (by rw[e7];rfl)
      |false=>
       rw[if_neg (by decide)];dsimp only;unfold DF;rw[find?];cases ha0:((l.getD i aC).1.t==[99,111,117,110,116])with
       |true=>
        rw[if_pos rfl];dsimp only;unfold kH;cases hdn:dn with
        |none=>
         have hq:((e:Int)==40)=true:=by rw[h0 hdn];rfl
         refine⟨aO,ah ..,ah ..,ai ..,dA.call mixed rfl ?_⟩;iterate 60 all_goals ((try conv=>whnf);try first|(with_reducible first|refine zY ?_|refine zN ?_|refine zT ?_|refine br (fun _=> ?_) (fun _=> ?_)|refine⟨rfl,?_⟩)|(refine cp.call rfl ?_)|(refine eZ.call mixed rfl ?_)|(refine iS.call mixed rfl ?_)|(refine ec.call mixed rfl ?_)|(refine cw.bO rfl fun h=> ?_))
         exact aW (ai _ _)
        |some L=>
         obtain⟨hlt2,hx⟩:=h1 L hdn;have hq:((e:Int)==40)=false:=by rw[beq_eq_false_iff_ne];omega
         have e8:IntKind.i64.wrap ((e:Int)+1)=((e+1:Nat):Int):=bN (by omega);have e9:IntKind.i64.wrap (((e+1:Nat):Int)-1)=(e:Int):=by rw[w8 (by omega) (by omega)];omega
         dsimp only;have ca:=vh hl hx 22 i hlt;cases hf:wC (aq l) L 22 i with
         |bad er j=>
          rw[hf]at ca;refine⟨aO,ah ..,ah ..,ai ..,dA.call mixed rfl ?_⟩;iterate 60 all_goals ((try conv=>whnf);try first|(with_reducible first|refine zY ?_|refine zN ?_|refine zT ?_|refine br (fun _=> ?_) (fun _=> ?_)|refine⟨rfl,?_⟩)|(refine cp.call rfl ?_)|(refine eZ.call mixed rfl ?_)|(refine iS.call mixed rfl ?_)|(refine ec.call mixed rfl ?_)|(refine pR.call mixed rfl ?_)|(refine cy.bO ca (by rw[e8];rfl) fun h=> ?_))
          exact aW (ai _ _)
         |ok x j=>
          rw[hf]at ca;obtain⟨zW,v,tb,nm,slot,kd,args⟩:=x;dsimp only[DM,lA]at ca;rw[bt]at ca;refine⟨aO,ah ..,ah ..,aD _,dA.call mixed rfl ?_⟩;iterate 60 all_goals ((try conv=>whnf);try first|(with_reducible first|refine zY ?_|refine zN ?_|refine zT ?_|refine br (fun _=> ?_) (fun _=> ?_)|refine⟨rfl,?_⟩)|(refine cp.call rfl ?_)|(refine eZ.call mixed rfl ?_)|(refine iS.call mixed rfl ?_)|(refine ec.call mixed rfl ?_)|(refine pR.call mixed rfl ?_)|(refine cy.call ca (by rw[e8];rfl) ?_))
          exact bT (.lit (aD (.mk zW v tb nm slot kd args))) (by rw[e9];rfl)
       |false=>
        rw[if_neg (by decide)];rw[find?];cases YX:((l.getD i aC).1.t==[115,117,109])with
        |true=>
         rw[if_pos rfl];dsimp only;unfold kH;cases hdn:dn with
         |none=>
          have hq:((e:Int)==40)=true:=by rw[h0 hdn];rfl
          refine⟨aO,ah ..,ah ..,ai ..,dA.call mixed rfl ?_⟩;iterate 60 all_goals ((try conv=>whnf);try first|(with_reducible first|refine zY ?_|refine zN ?_|refine zT ?_|refine br (fun _=> ?_) (fun _=> ?_)|refine⟨rfl,?_⟩)|(refine cp.call rfl ?_)|(refine eZ.call mixed rfl ?_)|(refine iS.call mixed rfl ?_)|(refine ec.call mixed rfl ?_)|(refine cw.bO rfl fun h=> ?_))
          exact aW (ai _ _)
         |some L=>
          obtain⟨hlt2,hx⟩:=h1 L hdn;have hq:((e:Int)==40)=false:=by rw[beq_eq_false_iff_ne];omega
          have e8:IntKind.i64.wrap ((e:Int)+1)=((e+1:Nat):Int):=bN (by omega);have e9:IntKind.i64.wrap (((e+1:Nat):Int)-1)=(e:Int):=by rw[w8 (by omega) (by omega)];omega
          dsimp only;have ca:=vh hl hx 23 i hlt;cases hf:wC (aq l) L 23 i with
          |bad er j=>
           rw[hf]at ca;refine⟨aO,ah ..,ah ..,ai ..,dA.call mixed rfl ?_⟩;iterate 60 all_goals ((try conv=>whnf);try first|(with_reducible first|refine zY ?_|refine zN ?_|refine zT ?_|refine br (fun _=> ?_) (fun _=> ?_)|refine⟨rfl,?_⟩)|(refine cp.call rfl ?_)|(refine eZ.call mixed rfl ?_)|(refine iS.call mixed rfl ?_)|(refine ec.call mixed rfl ?_)|(refine pR.call mixed rfl ?_)|(refine cy.bO ca (by rw[e8];rfl) fun h=> ?_))
           exact aW (ai _ _)
          |ok x j=>
           rw[hf]at ca;obtain⟨zW,v,tb,nm,slot,kd,args⟩:=x;dsimp only[DM,lA]at ca;rw[bt]at ca;refine⟨aO,ah ..,ah ..,aD _,dA.call mixed rfl ?_⟩;iterate 60 all_goals ((try conv=>whnf);try first|(with_reducible first|refine zY ?_|refine zN ?_|refine zT ?_|refine br (fun _=> ?_) (fun _=> ?_)|refine⟨rfl,?_⟩)|(refine cp.call rfl ?_)|(refine eZ.call mixed rfl ?_)|(refine iS.call mixed rfl ?_)|(refine ec.call mixed rfl ?_)|(refine pR.call mixed rfl ?_)|(refine cy.call ca (by rw[e8];rfl) ?_))
           exact bT (.lit (aD (.mk zW v tb nm slot kd args))) (by rw[e9];rfl)
        |false=>
         rw[if_neg (by decide)];rw[find?];cases YY:((l.getD i aC).1.t==[109,105,110])with
         |true=>
          rw[if_pos rfl];dsimp only;unfold kH;cases hdn:dn with
          |none=>
           have hq:((e:Int)==40)=true:=by rw[h0 hdn];rfl
           refine⟨aO,ah ..,ah ..,ai ..,dA.call mixed rfl ?_⟩;iterate 60 all_goals ((try conv=>whnf);try first|(with_reducible first|refine zY ?_|refine zN ?_|refine zT ?_|refine br (fun _=> ?_) (fun _=> ?_)|refine⟨rfl,?_⟩)|(refine cp.call rfl ?_)|(refine eZ.call mixed rfl ?_)|(refine iS.call mixed rfl ?_)|(refine ec.call mixed rfl ?_)|(refine cw.bO rfl fun h=> ?_))
           exact aW (ai _ _)
          |some L=>
           obtain⟨hlt2,hx⟩:=h1 L hdn;have hq:((e:Int)==40)=false:=by rw[beq_eq_false_iff_ne];omega
           have e8:IntKind.i64.wrap ((e:Int)+1)=((e+1:Nat):Int):=bN (by omega);have e9:IntKind.i64.wrap (((e+1:Nat):Int)-1)=(e:Int):=by rw[w8 (by omega) (by omega)];omega
           dsimp only;have ca:=vh hl hx 24 i hlt;cases hf:wC (aq l) L 24 i with
           |bad er j=>
            rw[hf]at ca;refine⟨aO,ah ..,ah ..,ai ..,dA.call mixed rfl ?_⟩;iterate 60 all_goals ((try conv=>whnf);try first|(with_reducible first|refine zY ?_|refine zN ?_|refine zT ?_|refine br (fun _=> ?_) (fun _=> ?_)|refine⟨rfl,?_⟩)|(refine cp.call rfl ?_)|(refine eZ.call mixed rfl ?_)|(refine iS.call mixed rfl ?_)|(refine ec.call mixed rfl ?_)|(refine pR.call mixed rfl ?_)|(refine cy.bO ca (by rw[e8];rfl) fun h=> ?_))
            exact aW (ai _ _)
           |ok x j=>
            rw[hf]at ca;obtain⟨zW,v,tb,nm,slot,kd,args⟩:=x;dsimp only[DM,lA]at ca;rw[bt]at ca;refine⟨aO,ah ..,ah ..,aD _,dA.call mixed rfl ?_⟩;iterate 60 all_goals ((try conv=>whnf);try first|(with_reducible first|refine zY ?_|refine zN ?_|refine zT ?_|refine br (fun _=> ?_) (fun _=> ?_)|refine⟨rfl,?_⟩)|(refine cp.call rfl ?_)|(refine eZ.call mixed rfl ?_)|(refine iS.call mixed rfl ?_)|(refine ec.call mixed rfl ?_)|(refine pR.call mixed rfl ?_)|(refine cy.call ca (by rw[e8];rfl) ?_))
            exact bT (.lit (aD (.mk zW v tb nm slot kd args))) (by rw[e9];rfl)
         |false=>
          rw[if_neg (by decide)];rw[find?];cases YZ:((l.getD i aC).1.t==[109,97,120])with
          |true=>
           rw[if_pos rfl];dsimp only;unfold kH;cases hdn:dn with
           |none=>
            have hq:((e:Int)==40)=true:=by rw[h0 hdn];rfl
            refine⟨aO,ah ..,ah ..,ai ..,dA.call mixed rfl ?_⟩;iterate 60 all_goals ((try conv=>whnf);try first|(with_reducible first|refine zY ?_|refine zN ?_|refine zT ?_|refine br (fun _=> ?_) (fun _=> ?_)|refine⟨rfl,?_⟩)|(refine cp.call rfl ?_)|(refine eZ.call mixed rfl ?_)|(refine iS.call mixed rfl ?_)|(refine ec.call mixed rfl ?_)|(refine cw.bO rfl fun h=> ?_))
            exact aW (ai _ _)
           |some L=>
            obtain⟨hlt2,hx⟩:=h1 L hdn;have hq:((e:Int)==40)=false:=by rw[beq_eq_false_iff_ne];omega
            have e8:IntKind.i64.wrap ((e:Int)+1)=((e+1:Nat):Int):=bN (by omega);have e9:IntKind.i64.wrap (((e+1:Nat):Int)-1)=(e:Int):=by rw[w8 (by omega) (by omega)];omega
            dsimp only;have ca:=vh hl hx 25 i hlt;cases hf:wC (aq l) L 25 i with
            |bad er j=>
             rw[hf]at ca;refine⟨aO,ah ..,ah ..,ai ..,dA.call mixed rfl ?_⟩;iterate 60 all_goals ((try conv=>whnf);try first|(with_reducible first|refine zY ?_|refine zN ?_|refine zT ?_|refine br (fun _=> ?_) (fun _=> ?_)|refine⟨rfl,?_⟩)|(refine cp.call rfl ?_)|(refine eZ.call mixed rfl ?_)|(refine iS.call mixed rfl ?_)|(refine ec.call mixed rfl ?_)|(refine pR.call mixed rfl ?_)|(refine cy.bO ca (by rw[e8];rfl) fun h=> ?_))
             exact aW (ai _ _)
            |ok x j=>
             rw[hf]at ca;obtain⟨zW,v,tb,nm,slot,kd,args⟩:=x;dsimp only[DM,lA]at ca;rw[bt]at ca;refine⟨aO,ah ..,ah ..,aD _,dA.call mixed rfl ?_⟩;iterate 60 all_goals ((try conv=>whnf);try first|(with_reducible first|refine zY ?_|refine zN ?_|refine zT ?_|refine br (fun _=> ?_) (fun _=> ?_)|refine⟨rfl,?_⟩)|(refine cp.call rfl ?_)|(refine eZ.call mixed rfl ?_)|(refine iS.call mixed rfl ?_)|(refine ec.call mixed rfl ?_)|(refine pR.call mixed rfl ?_)|(refine cy.call ca (by rw[e8];rfl) ?_))
             exact bT (.lit (aD (.mk zW v tb nm slot kd args))) (by rw[e9];rfl)
          |false=>
           rw[if_neg (by decide)];rw[find?];dsimp only;unfold oC.rq;cases hb:cj (aq l) [40] i with
           |false=>
            rw[hb]at ci;rw[if_neg (by decide)];cases hf:rm (aq l) (dP aH) i with
            |bad er j=>
             have c:=KN.bad hi hf;refine⟨aO,ah ..,ah ..,ai ..,dA.call mixed rfl ?_⟩;iterate 60 all_goals ((try conv=>whnf);try first|(with_reducible first|refine zY ?_|refine zN ?_|refine zT ?_|refine br (fun _=> ?_) (fun _=> ?_)|refine⟨rfl,?_⟩)|(refine cp.call rfl ?_)|(refine eZ.call mixed rfl ?_)|(refine iS.call mixed rfl ?_)|(refine ci.call rfl ?_)|(refine c.bO rfl fun h=> ?_))
             exact aW (ai _ _)
            |ok x j=>
             have c:=KN.ok hi hf;obtain⟨zW,v,tb,nm,slot,kd,args⟩:=x;rw[bt]at c;refine⟨aO,ah ..,ah ..,aD _,dA.call mixed rfl ?_⟩;iterate 60 all_goals ((try conv=>whnf);try first|(with_reducible first|refine zY ?_|refine zN ?_|refine zT ?_|refine br (fun _=> ?_) (fun _=> ?_)|refine⟨rfl,?_⟩)|(refine cp.call rfl ?_)|(refine eZ.call mixed rfl ?_)|(refine iS.call mixed rfl ?_)|(refine ci.call rfl ?_)|(refine c.call rfl ?_))
             exact bT (.lit (aD (.mk zW v tb nm slot kd args))) rfl
           |true=>
            rw[hb]at ci;rw[if_pos rfl];have hlt:=aI hb;have cm:=aS (m:=m) (e:=e+1) hl hb;unfold kH;cases hdn:dn with
            |none=>
             have hq:((e:Int)==40)=true:=by rw[h0 hdn];rfl
             refine⟨aO,ah ..,ah ..,ai ..,dA.call mixed rfl ?_⟩;iterate 60 all_goals ((try conv=>whnf);try first|(with_reducible first|refine zY ?_|refine zN ?_|refine zT ?_|refine br (fun _=> ?_) (fun _=> ?_)|refine⟨rfl,?_⟩)|(refine cp.call rfl ?_)|(refine eZ.call mixed rfl ?_)|(refine iS.call mixed rfl ?_)|(refine ci.call rfl ?_)|(refine ec.call mixed rfl ?_)|(refine cw.bO rfl fun h=> ?_))
             exact aW (ai _ _)
            |some L=>
             obtain⟨hlt2,hx⟩:=h1 L hdn;have hq:((e:Int)==40)=false:=by rw[beq_eq_false_iff_ne];omega
             have e8:IntKind.i64.wrap ((e:Int)+1)=((e+1:Nat):Int):=bN (by omega);have e9:IntKind.i64.wrap (((e+1:Nat):Int)-1)=(e:Int):=by rw[w8 (by omega) (by omega)];omega
             dsimp only;cases hf:L.expr (i+1)with
             |bad er j=>
              have c:=hx.bad hlt hf;refine⟨aO,ah ..,ah ..,ai ..,dA.call mixed rfl ?_⟩;iterate 60 all_goals ((try conv=>whnf);try first|(with_reducible first|refine zY ?_|refine zN ?_|refine zT ?_|refine br (fun _=> ?_) (fun _=> ?_)|refine⟨rfl,?_⟩)|(refine cp.call rfl ?_)|(refine eZ.call mixed rfl ?_)|(refine iS.call mixed rfl ?_)|(refine ci.call rfl ?_)|(refine ec.call mixed rfl ?_)|(refine rj.call mixed rfl ?_)|(refine aP cm (by rw[e8];rfl) rfl rfl ?_)|(refine c.bO rfl fun h=> ?_))
              exact aW (ai _ _)
             |ok x j=>
              have c:=hx.ok hlt hf;obtain⟨zW,v,tb,nm,slot,kd,args⟩:=x;rw[bt]at c;dsimp only[aF.then,aA];cases fC:cj (aq l) [41] j with
              |false=>
               have wJ:=bh (m:=m) (e:=e+1) hl fC;rw[if_neg (by decide)];refine⟨aO,ah ..,ah ..,ai ..,dA.call mixed rfl ?_⟩;iterate 60 all_goals ((try conv=>whnf);try first|(with_reducible first|refine zY ?_|refine zN ?_|refine zT ?_|refine br (fun _=> ?_) (fun _=> ?_)|refine⟨rfl,?_⟩)|(refine cp.call rfl ?_)|(refine eZ.call mixed rfl ?_)|(refine iS.call mixed rfl ?_)|(refine ci.call rfl ?_)|(refine ec.call mixed rfl ?_)|(refine rj.call mixed rfl ?_)|(refine aP cm (by rw[e8];rfl) rfl rfl ?_)|(refine c.call rfl ?_)|(refine dy wJ rfl rfl rfl fun h=> ?_))
               exact aW (ai _ _)
              |true=>
               have wJ:=aS (m:=m) (e:=e+1) hl fC;rw[if_pos rfl];refine⟨aO,ah ..,ah ..,aD _,dA.call mixed rfl ?_⟩;iterate 60 all_goals ((try conv=>whnf);try first|(with_reducible first|refine zY ?_|refine zN ?_|refine zT ?_|refine br (fun _=> ?_) (fun _=> ?_)|refine⟨rfl,?_⟩)|(refine cp.call rfl ?_)|(refine eZ.call mixed rfl ?_)|(refine iS.call mixed rfl ?_)|(refine ci.call rfl ?_)|(refine ec.call mixed rfl ?_)|(refine rj.call mixed rfl ?_)|(refine aP cm (by rw[e8];rfl) rfl rfl ?_)|(refine c.call rfl ?_)|(refine aP wJ rfl rfl rfl ?_))
               exact bT (.lit (aD (.mk zW v tb nm slot kd args))) (by rw[e9];rfl)
   |false=>
    rw[if_neg (by decide)];unfold oC.rq;cases hb:cj (aq l) [40] i with
    |false=>
     rw[hb]at ci;rw[if_neg (by decide)];cases hf:rm (aq l) (dP aH) i with
     |bad er j=>
      have c:=KN.bad hi hf;refine⟨aO,ah ..,ah ..,ai ..,dA.call mixed rfl ?_⟩;iterate 60 all_goals ((try conv=>whnf);try first|(with_reducible first|refine zY ?_|refine zN ?_|refine zT ?_|refine br (fun _=> ?_) (fun _=> ?_)|refine⟨rfl,?_⟩)|(refine cp.call rfl ?_)|(refine ci.call rfl ?_)|(refine c.bO rfl fun h=> ?_))
      exact aW (ai _ _)
     |ok x j=>
      have c:=KN.ok hi hf;obtain⟨zW,v,tb,nm,slot,kd,args⟩:=x;rw[bt]at c;refine⟨aO,ah ..,ah ..,aD _,dA.call mixed rfl ?_⟩;iterate 60 all_goals ((try conv=>whnf);try first|(with_reducible first|refine zY ?_|refine zN ?_|refine zT ?_|refine br (fun _=> ?_) (fun _=> ?_)|refine⟨rfl,?_⟩)|(refine cp.call rfl ?_)|(refine ci.call rfl ?_)|(refine c.call rfl ?_))
      exact bT (.lit (aD (.mk zW v tb nm slot kd args))) rfl
    |true=>
     rw[hb]at ci;rw[if_pos rfl];have hlt:=aI hb;have cm:=aS (m:=m) (e:=e+1) hl hb;unfold kH;cases hdn:dn with
     |none=>
      have hq:((e:Int)==40)=true:=by rw[h0 hdn];rfl
      refine⟨aO,ah ..,ah ..,ai ..,dA.call mixed rfl ?_⟩;iterate 60 all_goals ((try conv=>whnf);try first|(with_reducible first|refine zY ?_|refine zN ?_|refine zT ?_|refine br (fun _=> ?_) (fun _=> ?_)|refine⟨rfl,?_⟩)|(refine cp.call rfl ?_)|(refine ci.call rfl ?_)|(refine ec.call mixed rfl ?_)|(refine cw.bO rfl fun h=> ?_))
      exact aW (ai _ _)
     |some L=>
      obtain⟨hlt2,hx⟩:=h1 L hdn;have hq:((e:Int)==40)=false:=by rw[beq_eq_false_iff_ne];omega
      have e8:IntKind.i64.wrap ((e:Int)+1)=((e+1:Nat):Int):=bN (by omega);have e9:IntKind.i64.wrap (((e+1:Nat):Int)-1)=(e:Int):=by rw[w8 (by omega) (by omega)];omega
      dsimp only;cases hf:L.expr (i+1)with
      |bad er j=>
       have c:=hx.bad hlt hf;refine⟨aO,ah ..,ah ..,ai ..,dA.call mixed rfl ?_⟩;iterate 60 all_goals ((try conv=>whnf);try first|(with_reducible first|refine zY ?_|refine zN ?_|refine zT ?_|refine br (fun _=> ?_) (fun _=> ?_)|refine⟨rfl,?_⟩)|(refine cp.call rfl ?_)|(refine ci.call rfl ?_)|(refine ec.call mixed rfl ?_)|(refine rj.call mixed rfl ?_)|(refine aP cm (by rw[e8];rfl) rfl rfl ?_)|(refine c.bO rfl fun h=> ?_))
       exact aW (ai _ _)
      |ok x j=>
       have c:=hx.ok hlt hf;obtain⟨zW,v,tb,nm,slot,kd,args⟩:=x;rw[bt]at c;dsimp only[aF.then,aA];cases fC:cj (aq l) [41] j with
       |false=>
        have wJ:=bh (m:=m) (e:=e+1) hl fC;rw[if_neg (by decide)];refine⟨aO,ah ..,ah ..,ai ..,dA.call mixed rfl ?_⟩;iterate 60 all_goals ((try conv=>whnf);try first|(with_reducible first|refine zY ?_|refine zN ?_|refine zT ?_|refine br (fun _=> ?_) (fun _=> ?_)|refine⟨rfl,?_⟩)|(refine cp.call rfl ?_)|(refine ci.call rfl ?_)|(refine ec.call mixed rfl ?_)|(refine rj.call mixed rfl ?_)|(refine aP cm (by rw[e8];rfl) rfl rfl ?_)|(refine c.call rfl ?_)|(refine dy wJ rfl rfl rfl fun h=> ?_))
        exact aW (ai _ _)
       |true=>
        have wJ:=aS (m:=m) (e:=e+1) hl fC;rw[if_pos rfl];refine⟨aO,ah ..,ah ..,aD _,dA.call mixed rfl ?_⟩;iterate 60 all_goals ((try conv=>whnf);try first|(with_reducible first|refine zY ?_|refine zN ?_|refine zT ?_|refine br (fun _=> ?_) (fun _=> ?_)|refine⟨rfl,?_⟩)|(refine cp.call rfl ?_)|(refine ci.call rfl ?_)|(refine ec.call mixed rfl ?_)|(refine rj.call mixed rfl ?_)|(refine aP cm (by rw[e8];rfl) rfl rfl ?_)|(refine c.call rfl ?_)|(refine aP wJ rfl rfl rfl ?_))
        exact bT (.lit (aD (.mk zW v tb nm slot kd args))) (by rw[e9];rfl)
end
end Go.Proofs.YtbjifmbemdhndaaGreatDoor
