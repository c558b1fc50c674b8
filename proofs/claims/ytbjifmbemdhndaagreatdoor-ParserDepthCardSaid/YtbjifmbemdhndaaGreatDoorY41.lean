/- Parts of the proof of PParserDepth, one behind the other, with short names. -/
import Derived.Test.YtbjifmbemdhndaaGreatDoorY35
set_option linter.unusedVariables false
set_option linter.unusedSimpArgs false
namespace Go.Proofs.YtbjifmbemdhndaaGreatDoor
open Ab Go.RowKit
set_option maxRecDepth 100000
set_option maxHeartbeats 4000000
attribute [local irreducible] aO bx
section
variable {l:List TP} {m e:Nat}
theorem FH(hl:l.length<=65536)(he:e<=40){dn:Option Lv}(h0:dn=none->e=40)(h1: ∀L,dn=some L->e<40/\rU l m (e+1) 240 L.unary)
  {HY:Nat->cH Ex}(hc:rU l m e 248 HY):rU l m e 240 (mK (aX l) dn HY):=by
 intro i hi;unfold mK;have ci:=yl (l:=l) (m:=m) (e:=e) [45] i;cases hb:fM (aX l) [45] i with
 |false=>
  rw[hb]at ci;rw[if_neg (by decide)];cases hf:HY i with
  |bad er j=>
   have c:=hc.bad hi hf;refine⟨aV,ai ..,ai ..,av ..,pS.call mixed rfl ?_⟩;iterate 20 all_goals ((try conv=>whnf);try first|(with_reducible first|refine zY ?_|refine zN ?_|refine zT ?_|refine br (fun _=> ?_) (fun _=> ?_)|refine⟨rfl,?_⟩)|(refine ci.call rfl ?_)|(refine c.cZ rfl fun h=> ?_))
   exact cI (av _ _)
  |ok x j=>
   have c:=hc.ok hi hf;obtain⟨op,v,tb,nm,slot,kd,args⟩:=x;rw[aB]at c;refine⟨aV,ai ..,ai ..,aq _,pS.call mixed rfl ?_⟩;iterate 20 all_goals ((try conv=>whnf);try first|(with_reducible first|refine zY ?_|refine zN ?_|refine zT ?_|refine br (fun _=> ?_) (fun _=> ?_)|refine⟨rfl,?_⟩)|(refine ci.call rfl ?_)|(refine c.call rfl ?_))
   exact cO (.lit (aq (.mk op v tb nm slot kd args))) rfl
 |true=>
  rw[hb]at ci;rw[if_pos rfl];have hlt:=gv hb;have e7:IntKind.i64.wrap ((i:Int)+1)=((i+1:Nat):Int):=bL (by omega);have UD:IntKind.i64.wrap ((i:Int)+2)=((i+2:Nat):Int):=by rw[uB (by omega) (by omega)];omega
  have WI:IntKind.i64.wrap (IntKind.i64.wrap ((i:Int)+2)-1)=((i+1:Nat):Int):=by rw[UD,uB (by omega) (by omega)];omega
  have et:(IntKind.i64.wrap ((i:Int)+1)).toNat=i+1:=by rw[e7];rfl
  have WJ:(IntKind.i64.wrap (IntKind.i64.wrap ((i:Int)+2)-1)).toNat=i+1:=by rw[WI];rfl
  cases hk:((l.getD (i+1) aH).1.k==2)with
  |true=>
   have hlt2:=cD hk (by decide);have hd:decide (IntKind.i64.wrap ((i:Int)+1)<(l.length:Int))=true:=decide_eq_true (by rw[e7];omega);have hk2:((l.getD (IntKind.i64.wrap ((i:Int)+1)).toNat aH).1.k==2)=true:=by rw[et];exact hk
   have c:=oC ⟨2,IntKind.i64.wrap (IntKind.u64.wrap (0-((l.getD (IntKind.i64.wrap (IntKind.i64.wrap ((i:Int)+2)-1)).toNat aH).1.n:Int))),[]⟩;rw[if_pos rfl];refine⟨aV,ai ..,ai ..,aq _,pS.call mixed rfl ?_⟩;unfold lp at c;rw[aB]at c;iterate 40 all_goals ((try conv=>whnf);try first|(with_reducible first|refine zY ?_|refine zN ?_|refine zT ?_|refine br (fun _=> ?_) (fun _=> ?_)|refine⟨rfl,?_⟩|refine au.call (c) ?_)|(refine ci.call rfl ?_))
   refine cO ?_ (by rw[UD];rfl);rw[WJ];exact .lit (aq (lp ⟨2,IntKind.i64.wrap (IntKind.u64.wrap (0-((l.getD (i+1) aH).1.n:Int))),[]⟩))
  |false=>
   rw[if_neg (by decide)];have hk2:((l.getD (IntKind.i64.wrap ((i:Int)+1)).toNat aH).1.k==2)=false:=by rw[et];exact hk
   unfold je;cases hdn:dn with
   |none=>
    have hq:((e:Int)==40)=true:=by rw[h0 hdn];rfl
    have c:=ij (l:=l) (m:=m) (e:=e) 241 i;refine⟨aV,ai ..,ai ..,av ..,pS.call mixed rfl ?_⟩;iterate 40 all_goals ((try conv=>whnf);try first|(with_reducible first|refine zY ?_|refine zN ?_|refine zT ?_|refine br (fun _=> ?_) (fun _=> ?_)|refine⟨rfl,?_⟩)|(refine ci.call rfl ?_)|(refine c.cZ rfl fun h=> ?_)|(refine dm.call mixed rfl ?_))
    all_goals exact cI (av _ _)
   |some L=>
    obtain⟨hlt2,hn⟩:=h1 L hdn;have hq:((e:Int)==40)=false:=by rw[beq_eq_false_iff_ne];omega
    have e8:IntKind.i64.wrap ((e:Int)+1)=((e+1:Nat):Int):=bL (by omega);have e9:IntKind.i64.wrap (((e+1:Nat):Int)-1)=(e:Int):=by rw[uB (by omega) (by omega)];omega
    dsimp only;cases hf:L.unary (i+1)with
    |bad er j=>
     have c:=hn.bad hlt hf;refine⟨aV,ai ..,ai ..,av ..,pS.call mixed rfl ?_⟩;iterate 60 all_goals ((try conv=>whnf);try first|(with_reducible first|refine zY ?_|refine zN ?_|refine zT ?_|refine br (fun _=> ?_) (fun _=> ?_)|refine⟨rfl,?_⟩)|(refine ci.call rfl ?_)|(refine c.cZ (by rw[e7,e8];rfl) fun h=> ?_)|(refine dm.call mixed rfl ?_)|(refine Hs.call mixed rfl ?_))
     all_goals exact cI (av _ _)
    |ok x j=>
     have c:=hn.ok hlt hf;obtain⟨op,v,tb,nm,slot,kd,args⟩:=x;rw[aB]at c;refine⟨aV,ai ..,ai ..,aq _,pS.call mixed rfl ?_⟩;iterate 60 all_goals ((try conv=>whnf);try first|(with_reducible first|refine zY ?_|refine zN ?_|refine zT ?_|refine br (fun _=> ?_) (fun _=> ?_)|refine⟨rfl,?_⟩)|(refine ci.call rfl ?_)|(refine c.call (by rw[e7,e8];rfl) ?_)|(refine dm.call mixed rfl ?_)|(refine Hs.call mixed rfl ?_))
     all_goals exact cO (bX (oy rfl (.lit (aq (.mk op v tb nm slot kd args))))) (by rw[e9];rfl)
end
section
variable {l:List TP} {m e:Nat}
theorem tw(hl:l.length<=65536){L:Lv}(hx:rU l m e 22 L.expr)(op:Int)(i:Nat)(hi:i<l.length):
  dj Tryz.prog 256 [.int .u8 op] (gQ l i m e) (Ct l m (sU (aX l) L op i)) (gQ l (KY (sU (aX l) L op i)) m e):=by
 unfold sU;have e7:IntKind.i64.wrap ((i:Int)+1)=((i+1:Nat):Int):=bL (by omega);cases h1:fM (aX l) [40] (i+1)with
 |false=>
  have cm:=kQ (m:=m) (e:=e) hl h1;rw[if_neg (by decide)];refine⟨bK (.int _ _),ai ..,ai ..,av ..,mM.call mixed rfl ?_⟩;iterate 20 all_goals ((try conv=>whnf);try first|(with_reducible first|refine zY ?_|refine zN ?_|refine zT ?_|refine br (fun _=> ?_) (fun _=> ?_)|refine⟨rfl,?_⟩)|(refine AJ cm (by rw[e7];rfl) rfl rfl fun h=> ?_))
  exact cI (av _ _)
 |true=>
  have cm:=gq (m:=m) (e:=e) hl h1;have hi2:i+2<=l.length:=gv h1;rw[if_pos rfl];cases hop:(op==22)with
  |false=>
   rw[Bool.false_and,if_neg (by decide)];cases hf:L.expr (i+2)with
   |bad er j=>
    have c:=hx.bad hi2 hf;refine⟨bK (.int _ _),ai ..,ai ..,av ..,mM.call mixed rfl ?_⟩;iterate 40 all_goals ((try conv=>whnf);try first|(with_reducible first|refine zY ?_|refine zN ?_|refine zT ?_|refine br (fun _=> ?_) (fun _=> ?_)|refine⟨rfl,?_⟩)|(refine gp cm (by rw[e7];rfl) rfl rfl ?_)|(refine c.cZ (by rfl) fun h=> ?_))
    exact cI (av _ _)
   |ok x j=>
    have c:=hx.ok hi2 hf;obtain⟨yF,v,tb,nm,slot,kd,args⟩:=x;rw[aB]at c;dsimp only[cH.then,dX];cases hc:fM (aX l) [41] j with
    |false=>
     have yG:=kQ (m:=m) (e:=e) hl hc;rw[if_neg (by decide)];refine⟨bK (.int _ _),ai ..,ai ..,av ..,mM.call mixed rfl ?_⟩;iterate 40 all_goals ((try conv=>whnf);try first|(with_reducible first|refine zY ?_|refine zN ?_|refine zT ?_|refine br (fun _=> ?_) (fun _=> ?_)|refine⟨rfl,?_⟩)|(refine gp cm (by rw[e7];rfl) rfl rfl ?_)|(refine c.call (by rfl) ?_)|(refine AJ yG (by rfl) rfl rfl fun h=> ?_))
     exact cI (av _ _)
    |true=>
     have yG:=gq (m:=m) (e:=e) hl hc;rw[if_pos rfl];refine⟨bK (.int _ _),ai ..,ai ..,aq _,mM.call mixed rfl ?_⟩;iterate 40 all_goals ((try conv=>whnf);try first|(with_reducible first|refine zY ?_|refine zN ?_|refine zT ?_|refine br (fun _=> ?_) (fun _=> ?_)|refine⟨rfl,?_⟩)|(refine gp cm (by rw[e7];rfl) rfl rfl ?_)|(refine c.call (by rfl) ?_)|(refine gp yG (by rfl) rfl rfl ?_))
     exact cO (bX (oy rfl (.lit (aq (.mk yF v tb nm slot kd args))))) rfl
  |true=>
   rw[Bool.true_and];cases hs:fM (aX l) [42] (i+2)with
   |false=>
    have cg:=uQ (m:=m) (e:=e) hl hs;rw[if_neg (by decide)];cases hf:L.expr (i+2)with
    |bad er j=>
     have c:=hx.bad hi2 hf;refine⟨bK (.int _ _),ai ..,ai ..,av ..,mM.call mixed rfl ?_⟩;iterate 40 all_goals ((try conv=>whnf);try first|(with_reducible first|refine zY ?_|refine zN ?_|refine zT ?_|refine br (fun _=> ?_) (fun _=> ?_)|refine⟨rfl,?_⟩)|(refine gp cm (by rw[e7];rfl) rfl rfl ?_)|(refine cg.call (by rfl) ?_)|(refine c.cZ (by rfl) fun h=> ?_))
     exact cI (av _ _)
    |ok x j=>
     have c:=hx.ok hi2 hf;obtain⟨yF,v,tb,nm,slot,kd,args⟩:=x;rw[aB]at c;dsimp only[cH.then,dX];cases hc:fM (aX l) [41] j with
     |false=>
      have yG:=kQ (m:=m) (e:=e) hl hc;rw[if_neg (by decide)];refine⟨bK (.int _ _),ai ..,ai ..,av ..,mM.call mixed rfl ?_⟩;iterate 40 all_goals ((try conv=>whnf);try first|(with_reducible first|refine zY ?_|refine zN ?_|refine zT ?_|refine br (fun _=> ?_) (fun _=> ?_)|refine⟨rfl,?_⟩)|(refine gp cm (by rw[e7];rfl) rfl rfl ?_)|(refine cg.call (by rfl) ?_)|(refine c.call (by rfl) ?_)|(refine AJ yG (by rfl) rfl rfl fun h=> ?_))
      exact cI (av _ _)
     |true=>
      have yG:=gq (m:=m) (e:=e) hl hc;rw[if_pos rfl];refine⟨bK (.int _ _),ai ..,ai ..,aq _,mM.call mixed rfl ?_⟩;iterate 40 all_goals ((try conv=>whnf);try first|(with_reducible first|refine zY ?_|refine zN ?_|refine zT ?_|refine br (fun _=> ?_) (fun _=> ?_)|refine⟨rfl,?_⟩)|(refine gp cm (by rw[e7];rfl) rfl rfl ?_)|(refine cg.call (by rfl) ?_)|(refine c.call (by rfl) ?_)|(refine gp yG (by rfl) rfl rfl ?_))
      exact cO (bX (oy rfl (.lit (aq (.mk yF v tb nm slot kd args))))) rfl
   |true=>
    have cg:=qO (m:=m) (e:=e) hl hs;rw[if_pos rfl];dsimp only[cH.then,dX];cases hc:fM (aX l) [41] (i+3)with
    |false=>
     have yG:=kQ (m:=m) (e:=e) hl hc;rw[if_neg (by decide)];refine⟨bK (.int _ _),ai ..,ai ..,av ..,mM.call mixed rfl ?_⟩;iterate 40 all_goals ((try conv=>whnf);try first|(with_reducible first|refine zY ?_|refine zN ?_|refine zT ?_|refine br (fun _=> ?_) (fun _=> ?_)|refine⟨rfl,?_⟩)|(refine gp cm (by rw[e7];rfl) rfl rfl ?_)|(refine cg.call (by rfl) ?_)|(refine AJ yG (by rfl) rfl rfl fun h=> ?_))
     exact cI (av _ _)
    |true=>
     have yG:=gq (m:=m) (e:=e) hl hc;rw[if_pos rfl];refine⟨bK (.int _ _),ai ..,ai ..,aq _,mM.call mixed rfl ?_⟩;iterate 40 all_goals ((try conv=>whnf);try first|(with_reducible first|refine zY ?_|refine zN ?_|refine zT ?_|refine br (fun _=> ?_) (fun _=> ?_)|refine⟨rfl,?_⟩)|(refine gp cm (by rw[e7];rfl) rfl rfl ?_)|(refine cg.call (by rfl) ?_)|(refine gp yG (by rfl) rfl rfl ?_))
     exact cO (bX ki) rfl
end
end Go.Proofs.YtbjifmbemdhndaaGreatDoor
