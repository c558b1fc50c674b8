/- Parts of the proof of PParserDepth, one behind the other, with short names. -/
import Derived.Test.YtbjifmbemdhndaaGreatDoorY41
set_option linter.unusedVariables false
set_option linter.unusedSimpArgs false
namespace Go.Proofs.YtbjifmbemdhndaaGreatDoor
open Ab Go.RowKit
set_option maxRecDepth 100000
set_option maxHeartbeats 4000000
attribute [local irreducible] aO bx
section
variable {l:List TP} {m e:Nat}
theorem HZ(hl:l.length<=65536)(he:e<=40){dn:Option Lv}(h0:dn=none->e=40)(h1: ∀L,dn=some L->e<40/\rU l m (e+1) 22 L.expr):
  rU l m e 248 (fN (aX l) (sM cN) dn):=by
 intro i hi;have cp:=iV (l:=l) (m:=m) (e:=e) i;have e7:i<l.length->IntKind.i64.wrap ((i:Int)+1)=((i+1:Nat):Int):=fun h=>bL (by omega)
 have JN:=Cu (l:=l) (m:=m) (e:=e) hl;have ci:=yl (l:=l) (m:=m) (e:=e) [40] i;have cw:=ij (l:=l) (m:=m) (e:=e) 241 i;have WK:=ij (l:=l) (m:=m) (e:=e) 233 i;unfold fN;cases hk2:((l.getD i aH).1.k==2)with
 |true=>
  rw[if_pos rfl];have hlt:=cD hk2 (by decide);have e7:=e7 hlt;by_cases hn:9223372036854775807<(l.getD i aH).1.n
  ·rw[if_pos hn]
   have hd:decide ((9223372036854775807:Int)<((l.getD i aH).1.n:Int))=true:=decide_eq_true (by omega);refine⟨aV,ai ..,ai ..,av ..,cK.call mixed rfl ?_⟩;iterate 30 all_goals ((try conv=>whnf);try first|(with_reducible first|refine zY ?_|refine zN ?_|refine zT ?_|refine br (fun _=> ?_) (fun _=> ?_)|refine⟨rfl,?_⟩)|(refine cp.call rfl ?_)|(refine WK.cZ rfl fun h=> ?_))
   exact cI (av _ _)
  ·rw[if_neg hn]
   have hd:decide ((9223372036854775807:Int)<((l.getD i aH).1.n:Int))=false:=decide_eq_false (by omega);have e6:IntKind.i64.wrap ((l.getD i aH).1.n:Int)=((l.getD i aH).1.n:Int):=uB (by omega) (by omega);have c:=oC ⟨2,IntKind.i64.wrap ((l.getD i aH).1.n:Int),[]⟩;unfold lp at c;rw[aB]at c;refine⟨aV,ai ..,ai ..,aq _,cK.call mixed rfl ?_⟩;iterate 30 all_goals ((try conv=>whnf);try first|(with_reducible first|refine zY ?_|refine zN ?_|refine zT ?_|refine br (fun _=> ?_) (fun _=> ?_)|refine⟨rfl,?_⟩|refine au.call (c) ?_)|(refine cp.call rfl ?_))
   refine cO ?_ (by rw[e7];rfl);rw[e6];exact .lit (aq (lp ⟨2,((l.getD i aH).1.n:Int),[]⟩))
 |false=>
  rw[if_neg (by decide)];cases Pw:((l.getD i aH).1.k==3)with
  |true=>
   rw[if_pos rfl];have hlt:=cD Pw (by decide);have e7:=e7 hlt;have c:=oC ⟨3,0,(l.getD i aH).1.t⟩;unfold lp at c;rw[aB]at c;refine⟨aV,ai ..,ai ..,aq _,cK.call mixed rfl ?_⟩;iterate 30 all_goals ((try conv=>whnf);try first|(with_reducible first|refine zY ?_|refine zN ?_|refine zT ?_|refine br (fun _=> ?_) (fun _=> ?_)|refine⟨rfl,?_⟩|refine au.call (c) ?_)|(refine cp.call rfl ?_))
   exact cO (.lit (aq (lp ⟨3,0,(l.getD i aH).1.t⟩))) (by rw[e7];rfl)
  |false=>
   rw[if_neg (by decide)];cases Iw:((l.getD i aH).1.k==1)with
   |true=>
    rw[if_pos rfl];have hlt:=cD Iw (by decide);have e7:=e7 hlt;unfold D3;cases hc0:((l.getD i aH).1.t==[116,114,117,101])with
    |true=>
     rw[if_pos rfl];have c:=oC ⟨1,1,[]⟩;unfold lp at c;rw[aB]at c;refine⟨aV,ai ..,ai ..,aq _,cK.call mixed rfl ?_⟩;iterate 40 all_goals ((try conv=>whnf);try first|(with_reducible first|refine zY ?_|refine zN ?_|refine zT ?_|refine br (fun _=> ?_) (fun _=> ?_)|refine⟨rfl,?_⟩|refine au.call (c) ?_)|(refine cp.call rfl ?_)|(refine eB.call mixed rfl ?_))
     exact cO (.lit (aq (lp ⟨1,1,[]⟩))) (by rw[e7];rfl)
    |false=>
     rw[if_neg (by decide)];cases vW:((l.getD i aH).1.t==[102,97,108,115,101])with
     |true=>
      rw[if_pos rfl];have c:=oC ⟨1,0,[]⟩;unfold lp at c;rw[aB]at c;refine⟨aV,ai ..,ai ..,aq _,cK.call mixed rfl ?_⟩;iterate 40 all_goals ((try conv=>whnf);try first|(with_reducible first|refine zY ?_|refine zN ?_|refine zT ?_|refine br (fun _=> ?_) (fun _=> ?_)|refine⟨rfl,?_⟩|refine au.call (c) ?_)|(refine cp.call rfl ?_)|(refine eB.call mixed rfl ?_))
      exact cO (.lit (aq (lp ⟨1,0,[]⟩))) (by rw[e7];rfl)
     |false=>
      rw[if_neg (by decide)];cases Ym:((l.getD i aH).1.t==[110,117,108,108])with
      |true=>
       rw[if_pos rfl];have c:=oC Ma;unfold lp Ma at c;rw[aB]at c;refine⟨aV,ai ..,ai ..,aq _,cK.call mixed rfl ?_⟩;iterate 40 all_goals ((try conv=>whnf);try first|(with_reducible first|refine zY ?_|refine zN ?_|refine zT ?_|refine br (fun _=> ?_) (fun _=> ?_)|refine⟨rfl,?_⟩|refine au.call (c) ?_)|(refine cp.call rfl ?_)|(refine eB.call mixed rfl ?_))
       exact cO (.lit (aq (lp Ma))) (by rw[e7];rfl)
      |false=>
       rw[if_neg (by decide)];dsimp only;unfold GL;rw[find?];cases ha0:((l.getD i aH).1.t==[99,111,117,110,116])with
       |true=>
        rw[if_pos rfl];dsimp only;unfold je;cases hdn:dn with
        |none=>
         have hq:((e:Int)==40)=true:=by rw[h0 hdn];rfl
         refine⟨aV,ai ..,ai ..,av ..,cK.call mixed rfl ?_⟩;iterate 60 all_goals ((try conv=>whnf);try first|(with_reducible first|refine zY ?_|refine zN ?_|refine zT ?_|refine br (fun _=> ?_) (fun _=> ?_)|refine⟨rfl,?_⟩)|(refine cp.call rfl ?_)|(refine eB.call mixed rfl ?_)|(refine gD.call mixed rfl ?_)|(refine dm.call mixed rfl ?_)|(refine cw.cZ rfl fun h=> ?_))
         exact cI (av _ _)
        |some L=>
         obtain⟨hlt2,hx⟩:=h1 L hdn;have hq:((e:Int)==40)=false:=by rw[beq_eq_false_iff_ne];omega
         have e8:IntKind.i64.wrap ((e:Int)+1)=((e+1:Nat):Int):=bL (by omega);have e9:IntKind.i64.wrap (((e+1:Nat):Int)-1)=(e:Int):=by rw[uB (by omega) (by omega)];omega
         dsimp only;have ca:=tw hl hx 22 i hlt;cases hf:sU (aX l) L 22 i with
         |bad er j=>
          rw[hf]at ca;refine⟨aV,ai ..,ai ..,av ..,cK.call mixed rfl ?_⟩;iterate 60 all_goals ((try conv=>whnf);try first|(with_reducible first|refine zY ?_|refine zN ?_|refine zT ?_|refine br (fun _=> ?_) (fun _=> ?_)|refine⟨rfl,?_⟩)|(refine cp.call rfl ?_)|(refine eB.call mixed rfl ?_)|(refine gD.call mixed rfl ?_)|(refine dm.call mixed rfl ?_)|(refine nU.call mixed rfl ?_)|(refine dj.cZ ca (by rw[e8];rfl) fun h=> ?_))
          exact cI (av _ _)
         |ok x j=>
          rw[hf]at ca;obtain⟨yF,v,tb,nm,slot,kd,args⟩:=x;dsimp only[Ct,KY]at ca;rw[aB]at ca;refine⟨aV,ai ..,ai ..,aq _,cK.call mixed rfl ?_⟩;iterate 60 all_goals ((try conv=>whnf);try first|(with_reducible first|refine zY ?_|refine zN ?_|refine zT ?_|refine br (fun _=> ?_) (fun _=> ?_)|refine⟨rfl,?_⟩)|(refine cp.call rfl ?_)|(refine eB.call mixed rfl ?_)|(refine gD.call mixed rfl ?_)|(refine dm.call mixed rfl ?_)|(refine nU.call mixed rfl ?_)|(refine dj.call ca (by rw[e8];rfl) ?_))
          exact cO (.lit (aq (.mk yF v tb nm slot kd args))) (by rw[e9];rfl)
       |false=>
        rw[if_neg (by decide)];rw[find?];cases Yn:((l.getD i aH).1.t==[115,117,109])with
        |true=>
         rw[if_pos rfl];dsimp only;unfold je;cases hdn:dn with
         |none=>
          have hq:((e:Int)==40)=true:=by rw[h0 hdn];rfl
          refine⟨aV,ai ..,ai ..,av ..,cK.call mixed rfl ?_⟩;iterate 60 all_goals ((try conv=>whnf);try first|(with_reducible first|refine zY ?_|refine zN ?_|refine zT ?_|refine br (fun _=> ?_) (fun _=> ?_)|refine⟨rfl,?_⟩)|(refine cp.call rfl ?_)|(refine eB.call mixed rfl ?_)|(refine gD.call mixed rfl ?_)|(refine dm.call mixed rfl ?_)|(refine cw.cZ rfl fun h=> ?_))
          exact cI (av _ _)
         |some L=>
          obtain⟨hlt2,hx⟩:=h1 L hdn;have hq:((e:Int)==40)=false:=by rw[beq_eq_false_iff_ne];omega
          have e8:IntKind.i64.wrap ((e:Int)+1)=((e+1:Nat):Int):=bL (by omega);have e9:IntKind.i64.wrap (((e+1:Nat):Int)-1)=(e:Int):=by rw[uB (by omega) (by omega)];omega
          dsimp only;have ca:=tw hl hx 23 i hlt;cases hf:sU (aX l) L 23 i with
          |bad er j=>
           rw[hf]at ca;refine⟨aV,ai ..,ai ..,av ..,cK.call mixed rfl ?_⟩;iterate 60 all_goals ((try conv=>whnf);try first|(with_reducible first|refine zY ?_|refine zN ?_|refine zT ?_|refine br (fun _=> ?_) (fun _=> ?_)|refine⟨rfl,?_⟩)|(refine cp.call rfl ?_)|(refine eB.call mixed rfl ?_)|(refine gD.call mixed rfl ?_)|(refine dm.call mixed rfl ?_)|(refine nU.call mixed rfl ?_)|(refine dj.cZ ca (by rw[e8];rfl) fun h=> ?_))
           exact cI (av _ _)
          |ok x j=>
           rw[hf]at ca;obtain⟨yF,v,tb,nm,slot,kd,args⟩:=x;dsimp only[Ct,KY]at ca;rw[aB]at ca;refine⟨aV,ai ..,ai ..,aq _,cK.call mixed rfl ?_⟩;iterate 60 all_goals ((try conv=>whnf);try first|(with_reducible first|refine zY ?_|refine zN ?_|refine zT ?_|refine br (fun _=> ?_) (fun _=> ?_)|refine⟨rfl,?_⟩)|(refine cp.call rfl ?_)|(refine eB.call mixed rfl ?_)|(refine gD.call mixed rfl ?_)|(refine dm.call mixed rfl ?_)|(refine nU.call mixed rfl ?_)|(refine dj.call ca (by rw[e8];rfl) ?_))
           exact cO (.lit (aq (.mk yF v tb nm slot kd args))) (by rw[e9];rfl)
        |false=>
         rw[if_neg (by decide)];rw[find?];cases Yo:((l.getD i aH).1.t==[109,105,110])with
         |true=>
          rw[if_pos rfl];dsimp only;unfold je;cases hdn:dn with
          |none=>
           have hq:((e:Int)==40)=true:=by rw[h0 hdn];rfl
           refine⟨aV,ai ..,ai ..,av ..,cK.call mixed rfl ?_⟩;iterate 60 all_goals ((try conv=>whnf);try first|(with_reducible first|refine zY ?_|refine zN ?_|refine zT ?_|refine br (fun _=> ?_) (fun _=> ?_)|refine⟨rfl,?_⟩)|(refine cp.call rfl ?_)|(refine eB.call mixed rfl ?_)|(refine gD.call mixed rfl ?_)|(refine dm.call mixed rfl ?_)|(refine cw.cZ rfl fun h=> ?_))
           exact cI (av _ _)
          |some L=>
           obtain⟨hlt2,hx⟩:=h1 L hdn;have hq:((e:Int)==40)=false:=by rw[beq_eq_false_iff_ne];omega
           have e8:IntKind.i64.wrap ((e:Int)+1)=((e+1:Nat):Int):=bL (by omega);have e9:IntKind.i64.wrap (((e+1:Nat):Int)-1)=(e:Int):=by rw[uB (by omega) (by omega)];omega
           dsimp only;have ca:=tw hl hx 24 i hlt;cases hf:sU (aX l) L 24 i with
           |bad er j=>
            rw[hf]at ca;refine⟨aV,ai ..,ai ..,av ..,cK.call mixed rfl ?_⟩;iterate 60 all_goals ((try conv=>whnf);try first|(with_reducible first|refine zY ?_|refine zN ?_|refine zT ?_|refine br (fun _=> ?_) (fun _=> ?_)|refine⟨rfl,?_⟩)|(refine cp.call rfl ?_)|(refine eB.call mixed rfl ?_)|(refine gD.call mixed rfl ?_)|(refine dm.call mixed rfl ?_)|(refine nU.call mixed rfl ?_)|(refine dj.cZ ca (by rw[e8];rfl) fun h=> ?_))
            exact cI (av _ _)
           |ok x j=>
            rw[hf]at ca;obtain⟨yF,v,tb,nm,slot,kd,args⟩:=x;dsimp only[Ct,KY]at ca;rw[aB]at ca;refine⟨aV,ai ..,ai ..,aq _,cK.call mixed rfl ?_⟩;iterate 60 all_goals ((try conv=>whnf);try first|(with_reducible first|refine zY ?_|refine zN ?_|refine zT ?_|refine br (fun _=> ?_) (fun _=> ?_)|refine⟨rfl,?_⟩)|(refine cp.call rfl ?_)|(refine eB.call mixed rfl ?_)|(refine gD.call mixed rfl ?_)|(refine dm.call mixed rfl ?_)|(refine nU.call mixed rfl ?_)|(refine dj.call ca (by rw[e8];rfl) ?_))
            exact cO (.lit (aq (.mk yF v tb nm slot kd args))) (by rw[e9];rfl)
         |false=>
          rw[if_neg (by decide)];rw[find?];cases Yp:((l.getD i aH).1.t==[109,97,120])with
          |true=>
           rw[if_pos rfl];dsimp only;unfold je;cases hdn:dn with
           |none=>
            have hq:((e:Int)==40)=true:=by rw[h0 hdn];rfl
            refine⟨aV,ai ..,ai ..,av ..,cK.call mixed rfl ?_⟩;iterate 60 all_goals ((try conv=>whnf);try first|(with_reducible first|refine zY ?_|refine zN ?_|refine zT ?_|refine br (fun _=> ?_) (fun _=> ?_)|refine⟨rfl,?_⟩)|(refine cp.call rfl ?_)|(refine eB.call mixed rfl ?_)|(refine gD.call mixed rfl ?_)|(refine dm.call mixed rfl ?_)|(refine cw.cZ rfl fun h=> ?_))
            exact cI (av _ _)
           |some L=>
            obtain⟨hlt2,hx⟩:=h1 L hdn;have hq:((e:Int)==40)=false:=by rw[beq_eq_false_iff_ne];omega
            have e8:IntKind.i64.wrap ((e:Int)+1)=((e+1:Nat):Int):=bL (by omega);have e9:IntKind.i64.wrap (((e+1:Nat):Int)-1)=(e:Int):=by rw[uB (by omega) (by omega)];omega
            dsimp only;have ca:=tw hl hx 25 i hlt;cases hf:sU (aX l) L 25 i with
            |bad er j=>
             rw[hf]at ca;refine⟨aV,ai ..,ai ..,av ..,cK.call mixed rfl ?_⟩;iterate 60 all_goals ((try conv=>whnf);try first|(with_reducible first|refine zY ?_|refine zN ?_|refine zT ?_|refine br (fun _=> ?_) (fun _=> ?_)|refine⟨rfl,?_⟩)|(refine cp.call rfl ?_)|(refine eB.call mixed rfl ?_)|(refine gD.call mixed rfl ?_)|(refine dm.call mixed rfl ?_)|(refine nU.call mixed rfl ?_)|(refine dj.cZ ca (by rw[e8];rfl) fun h=> ?_))
             exact cI (av _ _)
            |ok x j=>
             rw[hf]at ca;obtain⟨yF,v,tb,nm,slot,kd,args⟩:=x;dsimp only[Ct,KY]at ca;rw[aB]at ca;refine⟨aV,ai ..,ai ..,aq _,cK.call mixed rfl ?_⟩;iterate 60 all_goals ((try conv=>whnf);try first|(with_reducible first|refine zY ?_|refine zN ?_|refine zT ?_|refine br (fun _=> ?_) (fun _=> ?_)|refine⟨rfl,?_⟩)|(refine cp.call rfl ?_)|(refine eB.call mixed rfl ?_)|(refine gD.call mixed rfl ?_)|(refine dm.call mixed rfl ?_)|(refine nU.call mixed rfl ?_)|(refine dj.call ca (by rw[e8];rfl) ?_))
             exact cO (.lit (aq (.mk yF v tb nm slot kd args))) (by rw[e9];rfl)
          |false=>
           rw[if_neg (by decide)];rw[find?];dsimp only;unfold fN.lq;cases hb:fM (aX l) [40] i with
           |false=>
            rw[hb]at ci;rw[if_neg (by decide)];cases hf:BZ (aX l) (sM cN) i with
            |bad er j=>
             have c:=JN.bad hi hf;refine⟨aV,ai ..,ai ..,av ..,cK.call mixed rfl ?_⟩;iterate 60 all_goals ((try conv=>whnf);try first|(with_reducible first|refine zY ?_|refine zN ?_|refine zT ?_|refine br (fun _=> ?_) (fun _=> ?_)|refine⟨rfl,?_⟩)|(refine cp.call rfl ?_)|(refine eB.call mixed rfl ?_)|(refine gD.call mixed rfl ?_)|(refine ci.call rfl ?_)|(refine c.cZ rfl fun h=> ?_))
             exact cI (av _ _)
            |ok x j=>
             have c:=JN.ok hi hf;obtain⟨yF,v,tb,nm,slot,kd,args⟩:=x;rw[aB]at c;refine⟨aV,ai ..,ai ..,aq _,cK.call mixed rfl ?_⟩;iterate 60 all_goals ((try conv=>whnf);try first|(with_reducible first|refine zY ?_|refine zN ?_|refine zT ?_|refine br (fun _=> ?_) (fun _=> ?_)|refine⟨rfl,?_⟩)|(refine cp.call rfl ?_)|(refine eB.call mixed rfl ?_)|(refine gD.call mixed rfl ?_)|(refine ci.call rfl ?_)|(refine c.call rfl ?_))
             exact cO (.lit (aq (.mk yF v tb nm slot kd args))) rfl
           |true=>
            rw[hb]at ci;rw[if_pos rfl];have hlt:=gv hb;have cm:=gq (m:=m) (e:=e+1) hl hb;unfold je;cases hdn:dn with
            |none=>
             have hq:((e:Int)==40)=true:=by rw[h0 hdn];rfl
             refine⟨aV,ai ..,ai ..,av ..,cK.call mixed rfl ?_⟩;iterate 60 all_goals ((try conv=>whnf);try first|(with_reducible first|refine zY ?_|refine zN ?_|refine zT ?_|refine br (fun _=> ?_) (fun _=> ?_)|refine⟨rfl,?_⟩)|(refine cp.call rfl ?_)|(refine eB.call mixed rfl ?_)|(refine gD.call mixed rfl ?_)|(refine ci.call rfl ?_)|(refine dm.call mixed rfl ?_)|(refine cw.cZ rfl fun h=> ?_))
             exact cI (av _ _)
            |some L=>
             obtain⟨hlt2,hx⟩:=h1 L hdn;have hq:((e:Int)==40)=false:=by rw[beq_eq_false_iff_ne];omega
             have e8:IntKind.i64.wrap ((e:Int)+1)=((e+1:Nat):Int):=bL (by omega);have e9:IntKind.i64.wrap (((e+1:Nat):Int)-1)=(e:Int):=by rw[uB (by omega) (by omega)];omega
             dsimp only;cases hf:L.expr (i+1)with
             |bad er j=>
              have c:=hx.bad hlt hf;refine⟨aV,ai ..,ai ..,av ..,cK.call mixed rfl ?_⟩;iterate 60 all_goals ((try conv=>whnf);try first|(with_reducible first|refine zY ?_|refine zN ?_|refine zT ?_|refine br (fun _=> ?_) (fun _=> ?_)|refine⟨rfl,?_⟩)|(refine cp.call rfl ?_)|(refine eB.call mixed rfl ?_)|(refine gD.call mixed rfl ?_)|(refine ci.call rfl ?_)|(refine dm.call mixed rfl ?_)|(refine pT.call mixed rfl ?_)|(refine gp cm (by rw[e8];rfl) rfl rfl ?_)|(refine c.cZ rfl fun h=> ?_))
              exact cI (av _ _)
             |ok x j=>
              have c:=hx.ok hlt hf;obtain⟨yF,v,tb,nm,slot,kd,args⟩:=x;rw[aB]at c;dsimp only[cH.then,dX];cases eI:fM (aX l) [41] j with
              |false=>
               have yG:=kQ (m:=m) (e:=e+1) hl eI;rw[if_neg (by decide)];refine⟨aV,ai ..,ai ..,av ..,cK.call mixed rfl ?_⟩;iterate 60 all_goals ((try conv=>whnf);try first|(with_reducible first|refine zY ?_|refine zN ?_|refine zT ?_|refine br (fun _=> ?_) (fun _=> ?_)|refine⟨rfl,?_⟩)|(refine cp.call rfl ?_)|(refine eB.call mixed rfl ?_)|(refine gD.call mixed rfl ?_)|(refine ci.call rfl ?_)|(refine dm.call mixed rfl ?_)|(refine pT.call mixed rfl ?_)|(refine gp cm (by rw[e8];rfl) rfl rfl ?_)|(refine c.call rfl ?_)|(refine AJ yG rfl rfl rfl fun h=> ?_))
               exact cI (av _ _)
              |true=>
               have yG:=gq (m:=m) (e:=e+1) hl eI;rw[if_pos rfl];refine⟨aV,ai ..,ai ..,aq _,cK.call mixed rfl ?_⟩;iterate 60 all_goals ((try conv=>whnf);try first|(with_reducible first|refine zY ?_|refine zN ?_|refine zT ?_|refine br (fun _=> ?_) (fun _=> ?_)|refine⟨rfl,?_⟩)|(refine cp.call rfl ?_)|(refine eB.call mixed rfl ?_)|(refine gD.call mixed rfl ?_)|(refine ci.call rfl ?_)|(refine dm.call mixed rfl ?_)|(refine pT.call mixed rfl ?_)|(refine gp cm (by rw[e8];rfl) rfl rfl ?_)|(refine c.call rfl ?_)|(refine gp yG rfl rfl rfl ?_))
               exact cO (.lit (aq (.mk yF v tb nm slot kd args))) (by rw[e9];rfl)
   |false=>
    rw[if_neg (by decide)];unfold fN.lq;cases hb:fM (aX l) [40] i with
    |false=>
     rw[hb]at ci;rw[if_neg (by decide)];cases hf:BZ (aX l) (sM cN) i with
     |bad er j=>
      have c:=JN.bad hi hf;refine⟨aV,ai ..,ai ..,av ..,cK.call mixed rfl ?_⟩;iterate 60 all_goals ((try conv=>whnf);try first|(with_reducible first|refine zY ?_|refine zN ?_|refine zT ?_|refine br (fun _=> ?_) (fun _=> ?_)|refine⟨rfl,?_⟩)|(refine cp.call rfl ?_)|(refine ci.call rfl ?_)|(refine c.cZ rfl fun h=> ?_))
      exact cI (av _ _)
     |ok x j=>
      have c:=JN.ok hi hf;obtain⟨yF,v,tb,nm,slot,kd,args⟩:=x;rw[aB]at c;refine⟨aV,ai ..,ai ..,aq _,cK.call mixed rfl ?_⟩;iterate 60 all_goals ((try conv=>whnf);try first|(with_reducible first|refine zY ?_|refine zN ?_|refine zT ?_|refine br (fun _=> ?_) (fun _=> ?_)|refine⟨rfl,?_⟩)|(refine cp.call rfl ?_)|(refine ci.call rfl ?_)|(refine c.call rfl ?_))
      exact cO (.lit (aq (.mk yF v tb nm slot kd args))) rfl
    |true=>
     rw[hb]at ci;rw[if_pos rfl];have hlt:=gv hb;have cm:=gq (m:=m) (e:=e+1) hl hb;unfold je;cases hdn:dn with
     |none=>
      have hq:((e:Int)==40)=true:=by rw[h0 hdn];rfl
      refine⟨aV,ai ..,ai ..,av ..,cK.call mixed rfl ?_⟩;iterate 60 all_goals ((try conv=>whnf);try first|(with_reducible first|refine zY ?_|refine zN ?_|refine zT ?_|refine br (fun _=> ?_) (fun _=> ?_)|refine⟨rfl,?_⟩)|(refine cp.call rfl ?_)|(refine ci.call rfl ?_)|(refine dm.call mixed rfl ?_)|(refine cw.cZ rfl fun h=> ?_))
      exact cI (av _ _)
     |some L=>
      obtain⟨hlt2,hx⟩:=h1 L hdn;have hq:((e:Int)==40)=false:=by rw[beq_eq_false_iff_ne];omega
      have e8:IntKind.i64.wrap ((e:Int)+1)=((e+1:Nat):Int):=bL (by omega);have e9:IntKind.i64.wrap (((e+1:Nat):Int)-1)=(e:Int):=by rw[uB (by omega) (by omega)];omega
      dsimp only;cases hf:L.expr (i+1)with
      |bad er j=>
       have c:=hx.bad hlt hf;refine⟨aV,ai ..,ai ..,av ..,cK.call mixed rfl ?_⟩;iterate 60 all_goals ((try conv=>whnf);try first|(with_reducible first|refine zY ?_|refine zN ?_|refine zT ?_|refine br (fun _=> ?_) (fun _=> ?_)|refine⟨rfl,?_⟩)|(refine cp.call rfl ?_)|(refine ci.call rfl ?_)|(refine dm.call mixed rfl ?_)|(refine pT.call mixed rfl ?_)|(refine gp cm (by rw[e8];rfl) rfl rfl ?_)|(refine c.cZ rfl fun h=> ?_))
       exact cI (av _ _)
      |ok x j=>
       have c:=hx.ok hlt hf;obtain⟨yF,v,tb,nm,slot,kd,args⟩:=x;rw[aB]at c;dsimp only[cH.then,dX];cases eI:fM (aX l) [41] j with
       |false=>
        have yG:=kQ (m:=m) (e:=e+1) hl eI;rw[if_neg (by decide)];refine⟨aV,ai ..,ai ..,av ..,cK.call mixed rfl ?_⟩;iterate 60 all_goals ((try conv=>whnf);try first|(with_reducible first|refine zY ?_|refine zN ?_|refine zT ?_|refine br (fun _=> ?_) (fun _=> ?_)|refine⟨rfl,?_⟩)|(refine cp.call rfl ?_)|(refine ci.call rfl ?_)|(refine dm.call mixed rfl ?_)|(refine pT.call mixed rfl ?_)|(refine gp cm (by rw[e8];rfl) rfl rfl ?_)|(refine c.call rfl ?_)|(refine AJ yG rfl rfl rfl fun h=> ?_))
        exact cI (av _ _)
       |true=>
        have yG:=gq (m:=m) (e:=e+1) hl eI;rw[if_pos rfl];refine⟨aV,ai ..,ai ..,aq _,cK.call mixed rfl ?_⟩;iterate 60 all_goals ((try conv=>whnf);try first|(with_reducible first|refine zY ?_|refine zN ?_|refine zT ?_|refine br (fun _=> ?_) (fun _=> ?_)|refine⟨rfl,?_⟩)|(refine cp.call rfl ?_)|(refine ci.call rfl ?_)|(refine dm.call mixed rfl ?_)|(refine pT.call mixed rfl ?_)|(refine gp cm (by rw[e8];rfl) rfl rfl ?_)|(refine c.call rfl ?_)|(refine gp yG rfl rfl rfl ?_))
        exact cO (.lit (aq (.mk yF v tb nm slot kd args))) (by rw[e9];rfl)
end
end Go.Proofs.YtbjifmbemdhndaaGreatDoor
