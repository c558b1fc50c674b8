/- Parts of the proof of PParserBlanks, one behind the other, with short names. -/
import Derived.Test.YtbjifmbemdhndaaGreatDoorZ43
import Derived.Test.YtbjifmbemdhndaaGreatDoorZ44
set_option linter.unusedVariables false
set_option linter.unusedSimpArgs false
namespace Go.Proofs.YtbjifmbemdhndaaGreatDoor
open Ab Go.RowKit
set_option maxRecDepth 100000
set_option maxHeartbeats 8000000
attribute [local irreducible] bB cH
section
variable {l:List TP} {m e:Nat}
structure SD(l:List TP)(r:aF (List Src)) where
 g:Nat
 xs:List Src
 f:Nat
 i:Nat
 hf:xs.length+f=4
 h0:0<xs.length
 hi:i<=l.length
 h:iU (aq l) l.length (dP aH) (bD l) f xs i=r
@[reducible] def SD.hp {r:aF (List Src)} (m:Nat) (items:List CC) (s0:Src):SD l r->Heap
  |⟨g,xs,f,i,_,_,_,_⟩=>⟨8,[(7,.vec g 11 (xs.map rC) ⟨true,some 107⟩),(6,.vec 0 11 [rC s0] ⟨false,some 107⟩),(3,mV (iZ 1 [] [] .ak .ak false .ak .ak (rowOf 11 (items.map sU)) (.sl 7 g 11 0 xs.length none) .ak .ak (-1) .ak)),(2,mV (iZ 0 [] [] .ak .ak false .ak .ak .ak .ak .ak .ak 0 .ak)),(1,lZ),(0,dx l i m 0)]⟩
theorem dL(items:List CC):jb (fun v=>mV (iZ 1 [] [] .ak .ak false .ak .ak (rowOf 11 (items.map sU)) v .ak .ak (-1) .ak)):=qo (pre:=[.int .u8 1,.str [],.str [],.ak,.ak,.bool false,.ak,.ak,rowOf 11 (items.map sU)]) (post:=[.int .u8 0,.int .u8 0,.int .i64 0,.str [],.str [],.str [],.int .i64 0,.int .u8 0,.ak,.ak,.ak,.int .i64 (-1),.ak]) (pX rfl) (pX rfl)
theorem K6(n:Nat)(xs:List Src)(c:Src): ∀v∈xs.map rC++[rC c],SV.lt 8 n v=true:=by
 intro v hv;rcases List.mem_append.1 hv with h|h
 ·obtain⟨x,_,rfl⟩:=List.mem_map.1 h
  rfl
 ·obtain rfl:=List.mem_singleton.1 h
  rfl
theorem cC{A:Heap}{i g n:Nat}{cap:Option Nat}{xs:List Src}{sk:Sk}(ho:A.obj i=some (.vec g 11 (xs.map rC) sk))(hn:n=xs.length):cq A (.sl i g 11 0 n cap) (rowOf 11 (xs.map rC)):=
 qm ho (by simp[hn]) fun v hv=>by
  obtain⟨x,_,rfl⟩:=List.mem_map.1 hv;exact ld x
theorem Al(hl:l.length<=65536)(i:Nat)(hi:i<=l.length):cy Tryz.prog 82 [] (dx l i m 0) (qL l m (nH (aq l) l.length (dP aH) (bD l) i)) (dx l (lA (nH (aq l) l.length (dP aH) (bD l) i)) m 0):=by
 unfold nH;cases h1:cj (aq l) [115,101,108,101,99,116] i with
 |false=>
  have c2:=bh (m:=m) (e:=0) hl h1;rw[show aA (aq l) [115,101,108,101,99,116] i= .bad 240 i by unfold aA;rw[h1];rfl]
  try dsimp only[aF.then]
  refine⟨aO,ah ..,ah ..,ai ..,yE.call mixed rfl ?_⟩;iterate 30 all_goals ((try conv=>whnf);try first|(with_reducible first|refine zY ?_|refine zN ?_|refine zT ?_|refine br (fun _=> ?_) (fun _=> ?_)|refine⟨rfl,?_⟩)|(refine dy c2 rfl rfl rfl fun h=> ?_))
  exact aW (ai _ _)
 |true=>
  have c2:=aS (m:=m) (e:=0) hl h1;have:=aI h1;rw[show aA (aq l) [115,101,108,101,99,116] i= .ok () (i+1) by unfold aA;rw[h1];rfl]
  try dsimp only[aF.then]
  have Ho:=Ju (m:=m) hl;have Hp:i+1<=l.length:=by omega
  cases h3:cN (aq l) l.length (qK (aq l) (dP aH) (bD l)) 32 [] (i+1)with
  |bad er j=>
   try dsimp only[aF.then]
   refine⟨aO,ah ..,ah ..,ai ..,yE.call mixed rfl ?_⟩;iterate 44 all_goals ((try conv=>whnf);try first|(with_reducible first|refine zY ?_|refine zN ?_|refine zT ?_|refine br (fun _=> ?_) (fun _=> ?_)|refine⟨rfl,?_⟩)|(refine aP c2 rfl rfl rfl ?_)|(refine iu hl Ho (by decide) Hp h3 rfl rfl rfl rfl fun h=> ?_))
   exact aW (ai _ _)
  |ok items j4=>
   have:=(gd Cf _ _ _ _ _ (by omega) h3).2
   try dsimp only[aF.then]
   cases h7:cj (aq l) [102,114,111,109] j4 with
   |false=>
    have c8:=bh (m:=m) (e:=0) hl h7;rw[show aA (aq l) [102,114,111,109] j4= .bad 240 j4 by unfold aA;rw[h7];rfl]
    try dsimp only[aF.then]
    refine⟨aO,ah ..,ah ..,ai ..,yE.call mixed rfl ?_⟩;iterate 58 all_goals ((try conv=>whnf);try first|(with_reducible first|refine zY ?_|refine zN ?_|refine zT ?_|refine br (fun _=> ?_) (fun _=> ?_)|refine⟨rfl,?_⟩)|(refine aP c2 rfl rfl rfl ?_)|(refine cI hl Ho (by decide) Hp h3 rfl rfl rfl rfl ?_)|(refine dy c8 rfl rfl rfl fun h=> ?_))
    exact aW (ai _ _)
   |true=>
    have c8:=aS (m:=m) (e:=0) hl h7;have:=aI h7;rw[show aA (aq l) [102,114,111,109] j4= .ok () (j4+1) by unfold aA;rw[h7];rfl]
    try dsimp only[aF.then]
    have fQ:=Ci (m:=m) hl (j4+1) (by omega);cases h9:gO (aq l) (dP aH) (bD l) false (j4+1)with
    |bad er j=>
     rw[h9]at fQ;dsimp only[aF.then,lA]at fQ
     try dsimp only[aF.then]
     refine⟨aO,ah ..,ah ..,ai ..,yE.call mixed rfl ?_⟩;iterate 72 all_goals ((try conv=>whnf);try first|(with_reducible first|refine zY ?_|refine zN ?_|refine zT ?_|refine br (fun _=> ?_) (fun _=> ?_)|refine⟨rfl,?_⟩)|(refine aP c2 rfl rfl rfl ?_)|(refine cI hl Ho (by decide) Hp h3 rfl rfl rfl rfl ?_)|(refine aP c8 rfl rfl rfl ?_)|(refine fQ.bO rfl fun h=> ?_))
     exact aW (ai _ _)
    |ok s0 GY=>
     rw[h9]at fQ;have:=(wQ _ _ _ (by omega) h9).2;dsimp only[aF.then,lA]at fQ
     try dsimp only[aF.then]
     have Uz: ∃R,((iU (aq l) l.length (dP aH) (bD l) 3 [s0] (GY)).then fun nO i5=>Cb (aq l) l.length (dP aH) (bD l) items nO i5)=R:=⟨_,rfl⟩;obtain⟨R,hR⟩:=Uz;show cy _ _ _ _ (qL l m ((iU (aq l) l.length (dP aH) (bD l) 3 [s0] (GY)).then fun nO i5=>Cb (aq l) l.length (dP aH) (bD l) items nO i5)) (dx l (lA ((iU (aq l) l.length (dP aH) (bD l) 3 [s0] (GY)).then fun nO i5=>Cb (aq l) l.length (dP aH) (bD l) items nO i5)) m 0);rw[hR];refine⟨aO,ah ..,ah ..,yZ _,yE.call mixed rfl ?_⟩;iterate 90 all_goals ((try conv=>whnf);try first|(with_reducible first|refine zY ?_|refine zN ?_|refine zT ?_|refine br (fun _=> ?_) (fun _=> ?_)|refine⟨rfl,?_⟩)|(refine aP c2 rfl rfl rfl ?_)|(refine cI hl Ho (by decide) Hp h3 rfl rfl rfl rfl ?_)|(refine aP c8 rfl rfl rfl ?_)|(refine fQ.call rfl ?_)|(refine cB rfl (by decide) ?_))
     generalize hr:iU (aq l) l.length (dP aH) (bD l) 3 [s0] (GY)=r at hR;refine DX (σ:=SD l r) (fun _=>[(0,.ref 0 0 0 0),(1,.ref 1 0 0 0),(2,.ref 2 0 0 0),(3,.ref 3 0 0 0)]) (SD.hp m items s0) (fun s=>s.f) (fun _=>8) (fun s=>Nat.le_refl 8) ?_ ⟨0,[s0],3,GY,rfl,(by show 0<1;decide),(by omega),hr⟩;clear hr;rintro⟨g,xs,f,i,hf,h0,hi,h⟩;have hg:Nat.beq g g=true:=Nat.beq_refl g;cases hp:cj (aq l) [106,111,105,110] i with
     |true=>
      have cg:=bG (m:=m) (e:=0) hl hp;have hlt:=aI hp;cases f with
      |zero=>
       rw[iU,if_pos hp]at h;obtain rfl:=h;dsimp only[aF.then]at hR;obtain rfl:=hR;have cf:=sI (l:=l) (m:=m) (e:=0) (n:=xs.length) (most:=4) (by omega) (i+1);iterate 60 all_goals ((try conv=>whnf);try first|(with_reducible first|refine zY ?_|refine zN ?_|refine zT ?_|refine br (fun _=> ?_) (fun _=> ?_)|refine⟨rfl,?_⟩)|(refine cg.call rfl ?_)|(refine cf.bO rfl fun h=> ?_))
       exact aW (ai _ _)
      |succ f=>
       rw[iU,if_pos hp]at h;have cf:=nG (l:=l) (m:=m) (e:=0) (n:=xs.length) (most:=4) (by omega) (i+1);have cs:=Cj (m:=m) hl (i+1) (by omega);cases hs:gO (aq l) (dP aH) (bD l) true (i+1)with
       |bad er j=>
        rw[hs]at cs h;dsimp only[aF.then,lA]at cs h;obtain rfl:=h;dsimp only[aF.then]at hR;obtain rfl:=hR;iterate 80 all_goals ((try conv=>whnf);try first|(with_reducible first|refine zY ?_|refine zN ?_|refine zT ?_|refine br (fun _=> ?_) (fun _=> ?_)|refine⟨rfl,?_⟩)|(refine cg.call rfl ?_)|(refine cf.call rfl ?_)|(refine cs.bO rfl fun h=> ?_))
        exact aW (ai _ _)
       |ok s j=>
        rw[hs]at cs h;dsimp only[aF.then,lA]at cs h;have hj:=(wQ _ _ _ (by omega) hs).2;iterate 100 all_goals ((try conv=>whnf);try first|(with_reducible first|refine zY ?_|refine zN ?_|refine zT ?_|refine br (fun _=> ?_) (fun _=> ?_)|refine⟨rfl,?_⟩)|(refine cg.call rfl ?_)|(refine cf.call rfl ?_)|(refine cs.call rfl ?_)|(refine bA (by simp) rfl (by decide) rfl (by omega) (by omega) ?_))
        refine⟨fun j=>false,_,_,aQ,.refl,?_⟩;iterate 14 all_goals ((try conv=>whnf);try first|(with_reducible first|refine zY ?_|refine zN ?_|refine zT ?_|refine br (fun _=> ?_) (fun _=> ?_)|refine⟨rfl,?_⟩)|(refine aN (eK rfl) ?_)|(refine aN (K6 8 xs s) ?_))
        have em:(xs++[s]).map rC=xs.map rC++[rC s]:=List.map_append;have el:(xs++[s]).length=xs.length+1:=by simp
        exact⟨⟨g+1,xs++[s],f,j,by rw[el];omega,by rw[el];omega,hj,h⟩,Nat.lt_succ_self f,rfl,by dsimp only[SD.hp];rw[em,el]⟩
     |false=>
      have cg:=bU (m:=m) (e:=0) hl hp;have h1:aF.ok xs i=r:=by rw[<- h];cases f<;>simp[iU,hp]
      obtain rfl:=h1;dsimp only[aF.then]at hR;unfold Cb Tf Jn at hR;have V2:=tS (m:=m) hl;cases h1:lX (aq l) (bD l) i with
      |bad er j=>
       have c2:=V2.bad (by omega) h1;rw[h1]at hR
       try dsimp only[aF.then]at hR
       obtain rfl:=hR;iterate 92 all_goals ((try conv=>whnf);try first|(with_reducible first|refine zY ?_|refine zN ?_|refine zT ?_|refine br (fun _=> ?_) (fun _=> ?_)|refine⟨rfl,?_⟩)|(refine cg.call rfl ?_)|(refine⟨fun j=>Nat.beq j 7,_,_,aQ,.cons (.same _) (.cons ((dL items).iq (cC rfl rfl)) .refl),?_⟩)|(refine c2.bO rfl fun h=> ?_))
       exact aW (ai _ _)
      |ok w j3=>
       have c2:=V2.ok (by omega) h1;have:=(tT _ _ _ (by omega) h1).2;rw[h1]at hR;obtain⟨Ae,v_,Af,Ag,iW,Ah,iX⟩:=w;rw[bt]at c2
       try dsimp only[aF.then]at hR
       cases h5:cj (aq l) [103,114,111,117,112] j3 with
       |true=>
        have c6:=bG (m:=m) (e:=0) hl h5;have:=aI h5;rw[h5]at hR;rw[if_pos rfl]at hR
        try dsimp only[aF.then]at hR
        cases h7:cj (aq l) [98,121] (j3+1)with
        |false=>
         have c8:=bh (m:=m) (e:=0) hl h7;rw[show aA (aq l) [98,121] (j3+1)= .bad 240 (j3+1) by unfold aA;rw[h7];rfl]at hR
         try dsimp only[aF.then]at hR
         obtain rfl:=hR;iterate 124 all_goals ((try conv=>whnf);try first|(with_reducible first|refine zY ?_|refine zN ?_|refine zT ?_|refine br (fun _=> ?_) (fun _=> ?_)|refine⟨rfl,?_⟩)|(refine cg.call rfl ?_)|(refine⟨fun j=>Nat.beq j 7,_,_,aQ,.cons (.same _) (.cons ((dL items).iq (cC rfl rfl)) .refl),?_⟩)|(refine c2.call rfl ?_)|(refine c6.call rfl ?_)|(refine dy c8 rfl rfl rfl fun h=> ?_))
         exact aW (ai _ _)
        |true=>
         have c8:=aS (m:=m) (e:=0) hl h7;have:=aI h7;rw[show aA (aq l) [98,121] (j3+1)= .ok () (j3+2) by unfold aA;rw[h7];rfl]at hR
         try dsimp only[aF.then]at hR
         have wU:=GX (m:=m) (c0:= .int .u8 1) (c1:= .str []) (c2:= .str []) (c3:= .ak) (c4:= .ak) (c5:= .bool false) (c6:= .ak) (c7:= .ak) (c8:=rowOf 11 (items.map sU)) (c9:=rowOf 11 (xs.map rC)) (fQ:= .int .u8 Ae) (mh:= .int .u8 v_.k) (kK:= .int .i64 v_.i) (iV:= .str v_.s) (kf:= .str Af) (mU:= .str Ag) (c16:= .int .i64 iW) (hG:= .int .u8 Ah) (qy:=mT (iY iX)) (sW:= .ak) (lg:= .int .i64 (-1)) (kg:= .ak) hl (pX rfl) (pX rfl);have wV:j3+2<=l.length:=by omega
         cases h9:cN (aq l) l.length (rm (aq l) (dP aH)) 32 [] (j3+2)with
         |bad er j=>
          rw[h9]at hR
          try dsimp only[aF.then]at hR
          obtain rfl:=hR;iterate 140 all_goals ((try conv=>whnf);try first|(with_reducible first|refine zY ?_|refine zN ?_|refine zT ?_|refine br (fun _=> ?_) (fun _=> ?_)|refine⟨rfl,?_⟩)|(refine cg.call rfl ?_)|(refine⟨fun j=>Nat.beq j 7,_,_,aQ,.cons (.same _) (.cons ((dL items).iq (cC rfl rfl)) .refl),?_⟩)|(refine c2.call rfl ?_)|(refine c6.call rfl ?_)|(refine aP c8 rfl rfl rfl ?_)|(refine iu hl wU (by decide) wV h9 rfl rfl rfl rfl fun h=> ?_))
          exact aW (ai _ _)
         |ok group sZ=>
          have:=(gd zX _ _ _ _ _ (by omega) h9).2;rw[h9]at hR
          try dsimp only[aF.then]at hR
          cases Hl:cj (aq l) [111,114,100,101,114] sZ with
          |true=>
           have kf:=bG (m:=m) (e:=0) hl Hl;have:=aI Hl;rw[Hl]at hR;rw[if_pos rfl]at hR
           try dsimp only[aF.then]at hR
           cases Jw:cj (aq l) [98,121] (sZ+1)with
           |false=>
            have c16:=bh (m:=m) (e:=0) hl Jw;rw[show aA (aq l) [98,121] (sZ+1)= .bad 240 (sZ+1) by unfold aA;rw[Jw];rfl]at hR
            try dsimp only[aF.then]at hR
            obtain rfl:=hR;iterate 172 all_goals ((try conv=>whnf);try first|(with_reducible first|refine zY ?_|refine zN ?_|refine zT ?_|refine br (fun _=> ?_) (fun _=> ?_)|refine⟨rfl,?_⟩)|(refine cg.call rfl ?_)|(refine⟨fun j=>Nat.beq j 7,_,_,aQ,.cons (.same _) (.cons ((dL items).iq (cC rfl rfl)) .refl),?_⟩)|(refine c2.call rfl ?_)|(refine c6.call rfl ?_)|(refine aP c8 rfl rfl rfl ?_)|(refine cI hl wU (by decide) wV h9 rfl rfl rfl rfl ?_)|(refine kf.call rfl ?_)|(refine dy c16 rfl rfl rfl fun h=> ?_))
            exact aW (ai _ _)
           |true=>
            have c16:=aS (m:=m) (e:=0) hl Jw;have:=aI Jw;rw[show aA (aq l) [98,121] (sZ+1)= .ok () (sZ+2) by unfold aA;rw[Jw];rfl]at hR
            try dsimp only[aF.then]at hR
            have Jz:=yY (m:=m) items xs (.mk Ae v_ Af Ag iW Ah iX) (gr:=(rowOf 9 (group.map sV))) hl (bx _ _);have JA:sZ+2<=l.length:=by omega
            cases Hj:cN (aq l) l.length (lY (aq l) (bD l)) 32 [] (sZ+2)with
            |bad er j=>
             rw[Hj]at hR
             try dsimp only[aF.then]at hR
             obtain rfl:=hR;iterate 188 all_goals ((try conv=>whnf);try first|(with_reducible first|refine zY ?_|refine zN ?_|refine zT ?_|refine br (fun _=> ?_) (fun _=> ?_)|refine⟨rfl,?_⟩)|(refine cg.call rfl ?_)|(refine⟨fun j=>Nat.beq j 7,_,_,aQ,.cons (.same _) (.cons ((dL items).iq (cC rfl rfl)) .refl),?_⟩)|(refine c2.call rfl ?_)|(refine c6.call rfl ?_)|(refine aP c8 rfl rfl rfl ?_)|(refine cI hl wU (by decide) wV h9 rfl rfl rfl rfl ?_)|(refine kf.call rfl ?_)|(refine aP c16 rfl rfl rfl ?_)|(refine iu hl Jz (by decide) JA Hj rfl rfl rfl rfl fun h=> ?_))
             exact aW (ai _ _)
            |ok order Am=>
             have:=(gd tR _ _ _ _ _ (by omega) Hj).2;rw[Hj]at hR
             try dsimp only[aF.then]at hR
             cases DW:cj (aq l) [108,105,109,105,116] Am with
             |true=>
              have kg:=bG (m:=m) (e:=0) hl DW;have:=aI DW;rw[DW]at hR;rw[if_pos rfl]at hR
              try dsimp only[aF.then]at hR
              have cp:=eS (l:=l) (m:=m) (e:=0) (Am+1);cases hk:((l.getD (Am+1) aC).1.k !=2)with
              |true=>
               rw[if_pos (show(aq l (Am+1)).k≠2 from bne_iff_ne.1 hk)]at hR
               try dsimp only[aF.then]at hR
               have cw:=bM (l:=l) (m:=m) (e:=0) 240 (Am+1);obtain rfl:=hR;iterate 236 all_goals ((try conv=>whnf);try first|(with_reducible first|refine zY ?_|refine zN ?_|refine zT ?_|refine br (fun _=> ?_) (fun _=> ?_)|refine⟨rfl,?_⟩)|(refine cg.call rfl ?_)|(refine⟨fun j=>Nat.beq j 7,_,_,aQ,.cons (.same _) (.cons ((dL items).iq (cC rfl rfl)) .refl),?_⟩)|(refine c2.call rfl ?_)|(refine c6.call rfl ?_)|(refine aP c8 rfl rfl rfl ?_)|(refine cI hl wU (by decide) wV h9 rfl rfl rfl rfl ?_)|(refine kf.call rfl ?_)|(refine aP c16 rfl rfl rfl ?_)|(refine cI hl Jz (by decide) JA Hj rfl rfl rfl rfl ?_)|(refine kg.call rfl ?_)|(refine cp.call rfl ?_)|(refine cw.bO rfl fun h=> ?_))
               exact aW (ai _ _)
              |false=>
               have kn:(aq l (Am+1)).k=2:=ef hk;have hlt:=bS (l:=l) (i:=Am+1) (k:=2) (beq_iff_eq.2 kn) (by decide);rw[if_neg (show ¬(aq l (Am+1)).k≠2 from fun h=>h kn)]at hR;cases hn:decide ((1073741824:Int)<(((l.getD (Am+1) aC).1.n:Nat):Int))with
               |true=>
                rw[if_pos (show 1073741824<(aq l (Am+1)).n by have:=of_decide_eq_true hn;show 1073741824<(l.getD (Am+1) aC).1.n;omega)]at hR
                try dsimp only[aF.then]at hR
                have cw:=bM (l:=l) (m:=m) (e:=0) 233 (Am+1);obtain rfl:=hR;iterate 236 all_goals ((try conv=>whnf);try first|(with_reducible first|refine zY ?_|refine zN ?_|refine zT ?_|refine br (fun _=> ?_) (fun _=> ?_)|refine⟨rfl,?_⟩)|(refine cg.call rfl ?_)|(refine⟨fun j=>Nat.beq j 7,_,_,aQ,.cons (.same _) (.cons ((dL items).iq (cC rfl rfl)) .refl),?_⟩)|(refine c2.call rfl ?_)|(refine c6.call rfl ?_)|(refine aP c8 rfl rfl rfl ?_)|(refine cI hl wU (by decide) wV h9 rfl rfl rfl rfl ?_)|(refine kf.call rfl ?_)|(refine aP c16 rfl rfl rfl ?_)|(refine cI hl Jz (by decide) JA Hj rfl rfl rfl rfl ?_)|(refine kg.call rfl ?_)|(refine cp.call rfl ?_)|(refine cw.bO rfl fun h=> ?_))
                exact aW (ai _ _)
               |false=>
                have vR: ¬1073741824<(l.getD (Am+1) aC).1.n:=by have:=of_decide_eq_false hn;omega
                rw[if_neg (show ¬1073741824<(aq l (Am+1)).n from vR)]at hR
                try dsimp only[aF.then]at hR
                have e1:IntKind.i64.wrap (((Am+1:Nat):Int)+1)=((Am+2:Nat):Int):=bN (by omega);have e2:IntKind.i64.wrap (((l.getD (Am+1) aC).1.n:Nat):Int)=(((l.getD (Am+1) aC).1.n:Nat):Int):=by rw[w8 (by omega) (by omega)]
                obtain rfl:=hR;iterate 268 all_goals ((try conv=>whnf);try first|rewrite [e1]|rewrite [e2]|(with_reducible first|refine zY ?_|refine zN ?_|refine zT ?_|refine br (fun _=> ?_) (fun _=> ?_)|refine⟨rfl,?_⟩)|(refine cg.call rfl ?_)|(refine⟨fun j=>Nat.beq j 7,_,_,aQ,.cons (.same _) (.cons ((dL items).iq (cC rfl rfl)) .refl),?_⟩)|(refine c2.call rfl ?_)|(refine c6.call rfl ?_)|(refine aP c8 rfl rfl rfl ?_)|(refine cI hl wU (by decide) wV h9 rfl rfl rfl rfl ?_)|(refine kf.call rfl ?_)|(refine aP c16 rfl rfl rfl ?_)|(refine cI hl Jz (by decide) JA Hj rfl rfl rfl rfl ?_)|(refine kg.call rfl ?_)|(refine cp.call rfl ?_))
                exact bT (dX {kind:=1,items:=items,nO:=xs,wh:=(.mk Ae v_ Af Ag iW Ah iX),group:=group,order:=order,limit:=(((l.getD (Am+1) aC).1.n:Nat):Int)} .nil .nil .nil .nil (.lit (bx _ _)) (.lit (bx _ _)) (.lit (gA _)) (.lit (bx _ _)) (.lit (bx _ _)) .nil) rfl
             |false=>
              have kg:=bU (m:=m) (e:=0) hl DW;rw[DW]at hR;rw[if_neg (by decide)]at hR
              try dsimp only[aF.then]at hR
              try dsimp only[aF.then]at hR
              obtain rfl:=hR;iterate 220 all_goals ((try conv=>whnf);try first|(with_reducible first|refine zY ?_|refine zN ?_|refine zT ?_|refine br (fun _=> ?_) (fun _=> ?_)|refine⟨rfl,?_⟩)|(refine cg.call rfl ?_)|(refine⟨fun j=>Nat.beq j 7,_,_,aQ,.cons (.same _) (.cons ((dL items).iq (cC rfl rfl)) .refl),?_⟩)|(refine c2.call rfl ?_)|(refine c6.call rfl ?_)|(refine aP c8 rfl rfl rfl ?_)|(refine cI hl wU (by decide) wV h9 rfl rfl rfl rfl ?_)|(refine kf.call rfl ?_)|(refine aP c16 rfl rfl rfl ?_)|(refine cI hl Jz (by decide) JA Hj rfl rfl rfl rfl ?_)|(refine kg.call rfl ?_))
              exact bT (dX {kind:=1,items:=items,nO:=xs,wh:=(.mk Ae v_ Af Ag iW Ah iX),group:=group,order:=order,limit:= -1} .nil .nil .nil .nil (.lit (bx _ _)) (.lit (bx _ _)) (.lit (gA _)) (.lit (bx _ _)) (.lit (bx _ _)) .nil) rfl
          |false=>
           have kf:=bU (m:=m) (e:=0) hl Hl;rw[Hl]at hR;rw[if_neg (by decide)]at hR
           try dsimp only[aF.then]at hR
           cases h23:cj (aq l) [108,105,109,105,116] sZ with
           |true=>
            have An:=bG (m:=m) (e:=0) hl h23;have:=aI h23;rw[h23]at hR;rw[if_pos rfl]at hR
            try dsimp only[aF.then]at hR
            have cp:=eS (l:=l) (m:=m) (e:=0) (sZ+1);cases hk:((l.getD (sZ+1) aC).1.k !=2)with
            |true=>
             rw[if_pos (show(aq l (sZ+1)).k≠2 from bne_iff_ne.1 hk)]at hR
             try dsimp only[aF.then]at hR
             have cw:=bM (l:=l) (m:=m) (e:=0) 240 (sZ+1);obtain rfl:=hR;iterate 204 all_goals ((try conv=>whnf);try first|(with_reducible first|refine zY ?_|refine zN ?_|refine zT ?_|refine br (fun _=> ?_) (fun _=> ?_)|refine⟨rfl,?_⟩)|(refine cg.call rfl ?_)|(refine⟨fun j=>Nat.beq j 7,_,_,aQ,.cons (.same _) (.cons ((dL items).iq (cC rfl rfl)) .refl),?_⟩)|(refine c2.call rfl ?_)|(refine c6.call rfl ?_)|(refine aP c8 rfl rfl rfl ?_)|(refine cI hl wU (by decide) wV h9 rfl rfl rfl rfl ?_)|(refine kf.call rfl ?_)|(refine An.call rfl ?_)|(refine cp.call rfl ?_)|(refine cw.bO rfl fun h=> ?_))
             exact aW (ai _ _)
            |false=>
             have kn:(aq l (sZ+1)).k=2:=ef hk;have hlt:=bS (l:=l) (i:=sZ+1) (k:=2) (beq_iff_eq.2 kn) (by decide);rw[if_neg (show ¬(aq l (sZ+1)).k≠2 from fun h=>h kn)]at hR;cases hn:decide ((1073741824:Int)<(((l.getD (sZ+1) aC).1.n:Nat):Int))with
             |true=>
              rw[if_pos (show 1073741824<(aq l (sZ+1)).n by have:=of_decide_eq_true hn;show 1073741824<(l.getD (sZ+1) aC).1.n;omega)]at hR
              try dsimp only[aF.then]at hR
              have cw:=bM (l:=l) (m:=m) (e:=0) 233 (sZ+1);obtain rfl:=hR;iterate 204 all_goals ((try conv=>whnf);try first|(with_reducible first|refine zY ?_|refine zN ?_|refine zT ?_|refine br (fun _=> ?_) (fun _=> ?_)|refine⟨rfl,?_⟩)|(refine cg.call rfl ?_)|(refine⟨fun j=>Nat.beq j 7,_,_,aQ,.cons (.same _) (.cons ((dL items).iq (cC rfl rfl)) .refl),?_⟩)|(refine c2.call rfl ?_)|(refine c6.call rfl ?_)|(refine aP c8 rfl rfl rfl ?_)|(refine cI hl wU (by decide) wV h9 rfl rfl rfl rfl ?_)|(refine kf.call rfl ?_)|(refine An.call rfl ?_)|(refine cp.call rfl ?_)|(refine cw.bO rfl fun h=> ?_))
              exact aW (ai _ _)
             |false=>
              have vR: ¬1073741824<(l.getD (sZ+1) aC).1.n:=by have:=of_decide_eq_false hn;omega
              rw[if_neg (show ¬1073741824<(aq l (sZ+1)).n from vR)]at hR
              try dsimp only[aF.then]at hR
              have e1:IntKind.i64.wrap (((sZ+1:Nat):Int)+1)=((sZ+2:Nat):Int):=bN (by omega);have e2:IntKind.i64.wrap (((l.getD (sZ+1) aC).1.n:Nat):Int)=(((l.getD (sZ+1) aC).1.n:Nat):Int):=by rw[w8 (by omega) (by omega)]
              obtain rfl:=hR;iterate 236 all_goals ((try conv=>whnf);try first|rewrite [e1]|rewrite [e2]|(with_reducible first|refine zY ?_|refine zN ?_|refine zT ?_|refine br (fun _=> ?_) (fun _=> ?_)|refine⟨rfl,?_⟩)|(refine cg.call rfl ?_)|(refine⟨fun j=>Nat.beq j 7,_,_,aQ,.cons (.same _) (.cons ((dL items).iq (cC rfl rfl)) .refl),?_⟩)|(refine c2.call rfl ?_)|(refine c6.call rfl ?_)|(refine aP c8 rfl rfl rfl ?_)|(refine cI hl wU (by decide) wV h9 rfl rfl rfl rfl ?_)|(refine kf.call rfl ?_)|(refine An.call rfl ?_)|(refine cp.call rfl ?_))
              exact bT (dX {kind:=1,items:=items,nO:=xs,wh:=(.mk Ae v_ Af Ag iW Ah iX),group:=group,limit:=(((l.getD (sZ+1) aC).1.n:Nat):Int)} .nil .nil .nil .nil (.lit (bx _ _)) (.lit (bx _ _)) (.lit (gA _)) (.lit (bx _ _)) .nil .nil) rfl
           |false=>
            have An:=bU (m:=m) (e:=0) hl h23;rw[h23]at hR;rw[if_neg (by decide)]at hR
            try dsimp only[aF.then]at hR
            try dsimp only[aF.then]at hR
            obtain rfl:=hR;iterate 188 all_goals ((try conv=>whnf);try first|(with_reducible first|refine zY ?_|refine zN ?_|refine zT ?_|refine br (fun _=> ?_) (fun _=> ?_)|refine⟨rfl,?_⟩)|(refine cg.call rfl ?_)|(refine⟨fun j=>Nat.beq j 7,_,_,aQ,.cons (.same _) (.cons ((dL items).iq (cC rfl rfl)) .refl),?_⟩)|(refine c2.call rfl ?_)|(refine c6.call rfl ?_)|(refine aP c8 rfl rfl rfl ?_)|(refine cI hl wU (by decide) wV h9 rfl rfl rfl rfl ?_)|(refine kf.call rfl ?_)|(refine An.call rfl ?_))
            exact bT (dX {kind:=1,items:=items,nO:=xs,wh:=(.mk Ae v_ Af Ag iW Ah iX),group:=group,limit:= -1} .nil .nil .nil .nil (.lit (bx _ _)) (.lit (bx _ _)) (.lit (gA _)) (.lit (bx _ _)) .nil .nil) rfl
       |false=>
        have c6:=bU (m:=m) (e:=0) hl h5;rw[h5]at hR;rw[if_neg (by decide)]at hR
        try dsimp only[aF.then]at hR
        cases MD:cj (aq l) [111,114,100,101,114] j3 with
        |true=>
         have Ap:=bG (m:=m) (e:=0) hl MD;have:=aI MD;rw[MD]at hR;rw[if_pos rfl]at hR
         try dsimp only[aF.then]at hR
         cases SE:cj (aq l) [98,121] (j3+1)with
         |false=>
          have OX:=bh (m:=m) (e:=0) hl SE;rw[show aA (aq l) [98,121] (j3+1)= .bad 240 (j3+1) by unfold aA;rw[SE];rfl]at hR
          try dsimp only[aF.then]at hR
          obtain rfl:=hR;iterate 140 all_goals ((try conv=>whnf);try first|(with_reducible first|refine zY ?_|refine zN ?_|refine zT ?_|refine br (fun _=> ?_) (fun _=> ?_)|refine⟨rfl,?_⟩)|(refine cg.call rfl ?_)|(refine⟨fun j=>Nat.beq j 7,_,_,aQ,.cons (.same _) (.cons ((dL items).iq (cC rfl rfl)) .refl),?_⟩)|(refine c2.call rfl ?_)|(refine c6.call rfl ?_)|(refine Ap.call rfl ?_)|(refine dy OX rfl rfl rfl fun h=> ?_))
          exact aW (ai _ _)
         |true=>
          have OX:=aS (m:=m) (e:=0) hl SE;have:=aI SE;rw[show aA (aq l) [98,121] (j3+1)= .ok () (j3+2) by unfold aA;rw[SE];rfl]at hR
          try dsimp only[aF.then]at hR
          have JB:=yY (m:=m) items xs (.mk Ae v_ Af Ag iW Ah iX) (gr:= .ak) hl bJ.ak;have JC:j3+2<=l.length:=by omega
          cases ME:cN (aq l) l.length (lY (aq l) (bD l)) 32 [] (j3+2)with
          |bad er j=>
           rw[ME]at hR
           try dsimp only[aF.then]at hR
           obtain rfl:=hR;iterate 156 all_goals ((try conv=>whnf);try first|(with_reducible first|refine zY ?_|refine zN ?_|refine zT ?_|refine br (fun _=> ?_) (fun _=> ?_)|refine⟨rfl,?_⟩)|(refine cg.call rfl ?_)|(refine⟨fun j=>Nat.beq j 7,_,_,aQ,.cons (.same _) (.cons ((dL items).iq (cC rfl rfl)) .refl),?_⟩)|(refine c2.call rfl ?_)|(refine c6.call rfl ?_)|(refine Ap.call rfl ?_)|(refine aP OX rfl rfl rfl ?_)|(refine iu hl JB (by decide) JC ME rfl rfl rfl rfl fun h=> ?_))
           exact aW (ai _ _)
          |ok order y4=>
           have:=(gd tR _ _ _ _ _ (by omega) ME).2;rw[ME]at hR
           try dsimp only[aF.then]at hR
           cases K7:cj (aq l) [108,105,109,105,116] y4 with
           |true=>
            have c34:=bG (m:=m) (e:=0) hl K7;have:=aI K7;rw[K7]at hR;rw[if_pos rfl]at hR
            try dsimp only[aF.then]at hR
            have cp:=eS (l:=l) (m:=m) (e:=0) (y4+1);cases hk:((l.getD (y4+1) aC).1.k !=2)with
            |true=>
             rw[if_pos (show(aq l (y4+1)).k≠2 from bne_iff_ne.1 hk)]at hR
             try dsimp only[aF.then]at hR
             have cw:=bM (l:=l) (m:=m) (e:=0) 240 (y4+1);obtain rfl:=hR;iterate 204 all_goals ((try conv=>whnf);try first|(with_reducible first|refine zY ?_|refine zN ?_|refine zT ?_|refine br (fun _=> ?_) (fun _=> ?_)|refine⟨rfl,?_⟩)|(refine cg.call rfl ?_)|(refine⟨fun j=>Nat.beq j 7,_,_,aQ,.cons (.same _) (.cons ((dL items).iq (cC rfl rfl)) .refl),?_⟩)|(refine c2.call rfl ?_)|(refine c6.call rfl ?_)|(refine Ap.call rfl ?_)|(refine aP OX rfl rfl rfl ?_)|(refine cI hl JB (by decide) JC ME rfl rfl rfl rfl ?_)|(refine c34.call rfl ?_)|(refine cp.call rfl ?_)|(refine cw.bO rfl fun h=> ?_))
             exact aW (ai _ _)
            |false=>
             have kn:(aq l (y4+1)).k=2:=ef hk;have hlt:=bS (l:=l) (i:=y4+1) (k:=2) (beq_iff_eq.2 kn) (by decide);rw[if_neg (show ¬(aq l (y4+1)).k≠2 from fun h=>h kn)]at hR;cases hn:decide ((1073741824:Int)<(((l.getD (y4+1) aC).1.n:Nat):Int))with
             |true=>
              rw[if_pos (show 1073741824<(aq l (y4+1)).n by have:=of_decide_eq_true hn;show 1073741824<(l.getD (y4+1) aC).1.n;omega)]at hR
              try dsimp only[aF.then]at hR
              have cw:=bM (l:=l) (m:=m) (e:=0) 233 (y4+1);obtain rfl:=hR;iterate 204 all_goals ((try conv=>whnf);try first|(with_reducible first|refine zY ?_|refine zN ?_|refine zT ?_|refine br (fun _=> ?_) (fun _=> ?_)|refine⟨rfl,?_⟩)|(refine cg.call rfl ?_)|(refine⟨fun j=>Nat.beq j 7,_,_,aQ,.cons (.same _) (.cons ((dL items).iq (cC rfl rfl)) .refl),?_⟩)|(refine c2.call rfl ?_)|(refine c6.call rfl ?_)|(refine Ap.call rfl ?_)|(refine aP OX rfl rfl rfl ?_)|(refine cI hl JB (by decide) JC ME rfl rfl rfl rfl ?_)|(refine c34.call rfl ?_)|(refine cp.call rfl ?_)|(refine cw.bO rfl fun h=> ?_))
              exact aW (ai _ _)
             |false=>
              have vR: ¬1073741824<(l.getD (y4+1) aC).1.n:=by have:=of_decide_eq_false hn;omega
              rw[if_neg (show ¬1073741824<(aq l (y4+1)).n from vR)]at hR
              try dsimp only[aF.then]at hR
              have e1:IntKind.i64.wrap (((y4+1:Nat):Int)+1)=((y4+2:Nat):Int):=bN (by omega);have e2:IntKind.i64.wrap (((l.getD (y4+1) aC).1.n:Nat):Int)=(((l.getD (y4+1) aC).1.n:Nat):Int):=by rw[w8 (by omega) (by omega)]
              obtain rfl:=hR;iterate 236 all_goals ((try conv=>whnf);try first|rewrite [e1]|rewrite [e2]|(with_reducible first|refine zY ?_|refine zN ?_|refine zT ?_|refine br (fun _=> ?_) (fun _=> ?_)|refine⟨rfl,?_⟩)|(refine cg.call rfl ?_)|(refine⟨fun j=>Nat.beq j 7,_,_,aQ,.cons (.same _) (.cons ((dL items).iq (cC rfl rfl)) .refl),?_⟩)|(refine c2.call rfl ?_)|(refine c6.call rfl ?_)|(refine Ap.call rfl ?_)|(refine aP OX rfl rfl rfl ?_)|(refine cI hl JB (by decide) JC ME rfl rfl rfl rfl ?_)|(refine c34.call rfl ?_)|(refine cp.call rfl ?_))
              exact bT (dX {kind:=1,items:=items,nO:=xs,wh:=(.mk Ae v_ Af Ag iW Ah iX),order:=order,limit:=(((l.getD (y4+1) aC).1.n:Nat):Int)} .nil .nil .nil .nil (.lit (bx _ _)) (.lit (bx _ _)) (.lit (gA _)) .nil (.lit (bx _ _)) .nil) rfl
           |false=>
            have c34:=bU (m:=m) (e:=0) hl K7;rw[K7]at hR;rw[if_neg (by decide)]at hR
            try dsimp only[aF.then]at hR
            try dsimp only[aF.then]at hR
            obtain rfl:=hR;iterate 188 all_goals ((try conv=>whnf);try first|(with_reducible first|refine zY ?_|refine zN ?_|refine zT ?_|refine br (fun _=> ?_) (fun _=> ?_)|refine⟨rfl,?_⟩)|(refine cg.call rfl ?_)|(refine⟨fun j=>Nat.beq j 7,_,_,aQ,.cons (.same _) (.cons ((dL items).iq (cC rfl rfl)) .refl),?_⟩)|(refine c2.call rfl ?_)|(refine c6.call rfl ?_)|(refine Ap.call rfl ?_)|(refine aP OX rfl rfl rfl ?_)|(refine cI hl JB (by decide) JC ME rfl rfl rfl rfl ?_)|(refine c34.call rfl ?_))
            exact bT (dX {kind:=1,items:=items,nO:=xs,wh:=(.mk Ae v_ Af Ag iW Ah iX),order:=order,limit:= -1} .nil .nil .nil .nil (.lit (bx _ _)) (.lit (bx _ _)) (.lit (gA _)) .nil (.lit (bx _ _)) .nil) rfl
        |false=>
         have Ap:=bU (m:=m) (e:=0) hl MD;rw[MD]at hR;rw[if_neg (by decide)]at hR
         try dsimp only[aF.then]at hR
         cases K8:cj (aq l) [108,105,109,105,116] j3 with
         |true=>
          have GZ:=bG (m:=m) (e:=0) hl K8;have:=aI K8;rw[K8]at hR;rw[if_pos rfl]at hR
          try dsimp only[aF.then]at hR
          have cp:=eS (l:=l) (m:=m) (e:=0) (j3+1);cases hk:((l.getD (j3+1) aC).1.k !=2)with
          |true=>
           rw[if_pos (show(aq l (j3+1)).k≠2 from bne_iff_ne.1 hk)]at hR
           try dsimp only[aF.then]at hR
           have cw:=bM (l:=l) (m:=m) (e:=0) 240 (j3+1);obtain rfl:=hR;iterate 172 all_goals ((try conv=>whnf);try first|(with_reducible first|refine zY ?_|refine zN ?_|refine zT ?_|refine br (fun _=> ?_) (fun _=> ?_)|refine⟨rfl,?_⟩)|(refine cg.call rfl ?_)|(refine⟨fun j=>Nat.beq j 7,_,_,aQ,.cons (.same _) (.cons ((dL items).iq (cC rfl rfl)) .refl),?_⟩)|(refine c2.call rfl ?_)|(refine c6.call rfl ?_)|(refine Ap.call rfl ?_)|(refine GZ.call rfl ?_)|(refine cp.call rfl ?_)|(refine cw.bO rfl fun h=> ?_))
           exact aW (ai _ _)
          |false=>
           have kn:(aq l (j3+1)).k=2:=ef hk;have hlt:=bS (l:=l) (i:=j3+1) (k:=2) (beq_iff_eq.2 kn) (by decide);rw[if_neg (show ¬(aq l (j3+1)).k≠2 from fun h=>h kn)]at hR;cases hn:decide ((1073741824:Int)<(((l.getD (j3+1) aC).1.n:Nat):Int))with
           |true=>
            rw[if_pos (show 1073741824<(aq l (j3+1)).n by have:=of_decide_eq_true hn;show 1073741824<(l.getD (j3+1) aC).1.n;omega)]at hR
            try dsimp only[aF.then]at hR
            have cw:=bM (l:=l) (m:=m) (e:=0) 233 (j3+1);obtain rfl:=hR;iterate 172 all_goals ((try conv=>whnf);try first|(with_reducible first|refine zY ?_|refine zN ?_|refine zT ?_|refine br (fun _=> ?_) (fun _=> ?_)|refine⟨rfl,?_⟩)|(refine cg.call rfl ?_)|(refine⟨fun j=>Nat.beq j 7,_,_,aQ,.cons (.same _) (.cons ((dL items).iq (cC rfl rfl)) .refl),?_⟩)|(refine c2.call rfl ?_)|(refine c6.call rfl ?_)|(refine Ap.call rfl ?_)|(refine GZ.call rfl ?_)|(refine cp.call rfl ?_)|(refine cw.bO rfl fun h=> ?_))
            exact aW (ai _ _)
           |false=>
            have vR: ¬1073741824<(l.getD (j3+1) aC).1.n:=by have:=of_decide_eq_false hn;omega
            rw[if_neg (show ¬1073741824<(aq l (j3+1)).n from vR)]at hR
            try dsimp only[aF.then]at hR
            have e1:IntKind.i64.wrap (((j3+1:Nat):Int)+1)=((j3+2:Nat):Int):=bN (by omega);have e2:IntKind.i64.wrap (((l.getD (j3+1) aC).1.n:Nat):Int)=(((l.getD (j3+1) aC).1.n:Nat):Int):=by rw[w8 (by omega) (by omega)]
            obtain rfl:=hR;iterate 204 all_goals ((try conv=>whnf);try first|rewrite [e1]|rewrite [e2]|(with_reducible first|refine zY ?_|refine zN ?_|refine zT ?_|refine br (fun _=> ?_) (fun _=> ?_)|refine⟨rfl,?_⟩)|(refine cg.call rfl ?_)|(refine⟨fun j=>Nat.beq j 7,_,_,aQ,.cons (.same _) (.cons ((dL items).iq (cC rfl rfl)) .refl),?_⟩)|(refine c2.call rfl ?_)|(refine c6.call rfl ?_)|(refine Ap.call rfl ?_)|(refine GZ.call rfl ?_)|(refine cp.call rfl ?_))
            exact bT (dX {kind:=1,items:=items,nO:=xs,wh:=(.mk Ae v_ Af Ag iW Ah iX),limit:=(((l.getD (j3+1) aC).1.n:Nat):Int)} .nil .nil .nil .nil (.lit (bx _ _)) (.lit (bx _ _)) (.lit (gA _)) .nil .nil .nil) rfl
         |false=>
          have GZ:=bU (m:=m) (e:=0) hl K8;rw[K8]at hR;rw[if_neg (by decide)]at hR
          try dsimp only[aF.then]at hR
          try dsimp only[aF.then]at hR
          obtain rfl:=hR;iterate 156 all_goals ((try conv=>whnf);try first|(with_reducible first|refine zY ?_|refine zN ?_|refine zT ?_|refine br (fun _=> ?_) (fun _=> ?_)|refine⟨rfl,?_⟩)|(refine cg.call rfl ?_)|(refine⟨fun j=>Nat.beq j 7,_,_,aQ,.cons (.same _) (.cons ((dL items).iq (cC rfl rfl)) .refl),?_⟩)|(refine c2.call rfl ?_)|(refine c6.call rfl ?_)|(refine Ap.call rfl ?_)|(refine GZ.call rfl ?_))
          exact bT (dX {kind:=1,items:=items,nO:=xs,wh:=(.mk Ae v_ Af Ag iW Ah iX),limit:= -1} .nil .nil .nil .nil (.lit (bx _ _)) (.lit (bx _ _)) (.lit (gA _)) .nil .nil .nil) rfl
end
end Go.Proofs.YtbjifmbemdhndaaGreatDoor
