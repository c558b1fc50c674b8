/- Parts of the proof of PParserBlanks, one behind the other, with short names. -/
import Derived.Test.YtbjifmbemdhndaaGreatDoorZ42
set_option linter.unusedVariables false
set_option linter.unusedSimpArgs false
namespace Go.Proofs.YtbjifmbemdhndaaGreatDoor
open Ab Go.RowKit
set_option maxRecDepth 100000
set_option maxHeartbeats 8000000
attribute [local irreducible] bB cH
section
variable {l:List TP} {m e:Nat}
theorem eX(n:Nat)(xs:List fe)(c:fe): ∀v∈xs.map jN++[jN c],SV.lt 8 n v=true:=by
 intro v hv;rcases List.mem_append.1 hv with h|h
 ·obtain⟨x,_,rfl⟩:=List.mem_map.1 h
  rfl
 ·obtain rfl:=List.mem_singleton.1 h
  rfl
theorem eK{n:Nat}{v:SV}(h:SV.lt 8 n v=true): ∀u∈[v],SV.lt 8 n u=true:=fun u hu=>by rw[List.mem_singleton.1 hu];exact h
theorem ef{a b:Int}(h:(a !=b)=false):a=b:=bne_eq_false_iff_eq.1 h
inductive xb(l:List TP)(r:aF (List fe)) where
 |E (i:Nat) (hi:i<=l.length) (h:gY (aq l) l.length (dP aH) 12 [] i=r)
 |L (b:Bool) (g:Nat) (xs:List fe) (f i:Nat) (hf:xs.length+f=12) (h0:0<xs.length) (hi:i<=l.length) (h:gY (aq l) l.length (dP aH) f xs i=r)
@[reducible] def xb.env {l:List TP} {r:aF (List fe)}:xb l r->Env
  |_=>[(0,.ref 0 0 0 0),(2,.ref 1 0 0 0),(3,.ref 3 0 0 0)]
@[reducible] def xb.hp {l:List TP} {r:aF (List fe)} (m:Nat) (n:List UInt8):xb l r->Heap
  | .E i .. =>⟨5,[(3,mV (iZ 5 n [] .ak .ak false .ak .ak .ak .ak .ak .ak 0 .ak)),(1,mV (iZ 0 [] [] .ak .ak false .ak .ak .ak .ak .ak .ak 0 .ak)),(0,dx l i m 0)]⟩
  | .L false g xs _ i .. =>⟨10,[(8,.vec g 3 (xs.map jN) ⟨true,some 96⟩),(3,mV (iZ 5 n [] (.sl 8 g 3 0 xs.length none) .ak false .ak .ak .ak .ak .ak .ak 0 .ak)),(1,mV (iZ 0 [] [] .ak .ak false .ak .ak .ak .ak .ak .ak 0 .ak)),(0,dx l i m 0)]⟩
  | .L true g xs _ i .. =>⟨10,[(9,.vec g 3 (xs.map jN) ⟨true,some 96⟩),(3,mV (iZ 5 n [] (.sl 9 g 3 0 xs.length none) .ak false .ak .ak .ak .ak .ak .ak 0 .ak)),(1,mV (iZ 0 [] [] .ak .ak false .ak .ak .ak .ak .ak .ak 0 .ak)),(0,dx l i m 0)]⟩
def xb.mu{l:List TP}{r:aF (List fe)}:xb l r->Nat
 | .E .. =>13
 | .L _ _ _ f .. =>f
theorem Cm(hl:l.length<=65536)(i:Nat)(hi:i<=l.length):cy Tryz.prog 86 [] (dx l i m 0) (qL l m (tP (aq l) l.length (dP aH) i)) (dx l (lA (tP (aq l) l.length (dP aH) i)) m 0):=by
 unfold tP;cases h1:cj (aq l) [116,97,98,108,101] i with
 |false=>
  have c2:=bh (m:=m) (e:=0) hl h1;rw[show aA (aq l) [116,97,98,108,101] i= .bad 240 i by unfold aA;rw[h1];rfl]
  try dsimp only[aF.then]
  refine⟨aO,ah ..,ah ..,ai ..,Fq.call mixed rfl ?_⟩;iterate 30 all_goals ((try conv=>whnf);try first|(with_reducible first|refine zY ?_|refine zN ?_|refine zT ?_|refine br (fun _=> ?_) (fun _=> ?_)|refine⟨rfl,?_⟩)|(refine dy c2 rfl rfl rfl fun h=> ?_))
  exact aW (ai _ _)
 |true=>
  have c2:=aS (m:=m) (e:=0) hl h1;have:=aI h1;rw[show aA (aq l) [116,97,98,108,101] i= .ok () (i+1) by unfold aA;rw[h1];rfl]
  try dsimp only[aF.then]
  cases h3:de (aq l) (dP aH) (i+1)with
  |bad er j=>
   have c4:=cM (m:=m) (e:=0) hl h3
   try dsimp only[aF.then]
   refine⟨aO,ah ..,ah ..,ai ..,Fq.call mixed rfl ?_⟩;iterate 44 all_goals ((try conv=>whnf);try first|(with_reducible first|refine zY ?_|refine zN ?_|refine zT ?_|refine br (fun _=> ?_) (fun _=> ?_)|refine⟨rfl,?_⟩)|(refine aP c2 rfl rfl rfl ?_)|(refine c4.bO rfl fun h=> ?_))
   exact aW (ai _ _)
  |ok n j5=>
   have c4:=dz (m:=m) (e:=0) hl h3;have:=(cT _ _ _ (by omega) h3).2
   try dsimp only[aF.then]
   cases h6:cj (aq l) [40] j5 with
   |false=>
    have c7:=bh (m:=m) (e:=0) hl h6;rw[show aA (aq l) [40] j5= .bad 240 j5 by unfold aA;rw[h6];rfl]
    try dsimp only[aF.then]
    refine⟨aO,ah ..,ah ..,ai ..,Fq.call mixed rfl ?_⟩;iterate 58 all_goals ((try conv=>whnf);try first|(with_reducible first|refine zY ?_|refine zN ?_|refine zT ?_|refine br (fun _=> ?_) (fun _=> ?_)|refine⟨rfl,?_⟩)|(refine aP c2 rfl rfl rfl ?_)|(refine c4.call rfl ?_)|(refine dy c7 rfl rfl rfl fun h=> ?_))
    exact aW (ai _ _)
   |true=>
    have c7:=aS (m:=m) (e:=0) hl h6;have:=aI h6;rw[show aA (aq l) [40] j5= .ok () (j5+1) by unfold aA;rw[h6];rfl]
    try dsimp only[aF.then]
    have Uz: ∃R,((gY (aq l) l.length (dP aH) 12 [] (j5+1)).then fun gX i4=>nI (aq l) l.length (dP aH) n gX i4)=R:=⟨_,rfl⟩;obtain⟨R,hR⟩:=Uz;show cy _ _ _ _ (qL l m ((gY (aq l) l.length (dP aH) 12 [] (j5+1)).then fun gX i4=>nI (aq l) l.length (dP aH) n gX i4)) (dx l (lA ((gY (aq l) l.length (dP aH) 12 [] (j5+1)).then fun gX i4=>nI (aq l) l.length (dP aH) n gX i4)) m 0);rw[hR];refine⟨aO,ah ..,ah ..,yZ _,Fq.call mixed rfl ?_⟩;iterate 60 all_goals ((try conv=>whnf);try first|(with_reducible first|refine zY ?_|refine zN ?_|refine zT ?_|refine br (fun _=> ?_) (fun _=> ?_)|refine⟨rfl,?_⟩)|(refine aP c2 rfl rfl rfl ?_)|(refine c4.call rfl ?_)|(refine aP c7 rfl rfl rfl ?_))
    generalize hr:gY (aq l) l.length (dP aH) 12 [] (j5+1)=r at hR;refine nD (σ:=xb l r) xb.env (xb.hp m n) xb.mu (fun _=>10) (fun s=>match s with| .E .. =>(by show 5<=10;decide)| .L false .. =>Nat.le_refl 10| .L true .. =>Nat.le_refl 10) ?_ (.E (j5+1) (by omega) hr);clear hr;rintro(⟨i,hi,h⟩|⟨b,g,xs,f,i,hf,h0,hi,h⟩)
    ·rw[gY]at h
     rw[if_neg (by simp)]at h;have cf:=nG (l:=l) (m:=m) (e:=0) (n:=0) (most:=12) (by decide) i;unfold vm at h;cases h1:de (aq l) (dP aH) i with
     |bad er j=>
      have c2:=cM (m:=m) (e:=0) hl h1;rw[h1]at h
      try dsimp only[aF.then]at h
      obtain rfl:=h;dsimp only[aF.then]at hR;obtain rfl:=hR;iterate 44 all_goals ((try conv=>whnf);try first|(with_reducible first|refine zY ?_|refine zN ?_|refine zT ?_|refine br (fun _=> ?_) (fun _=> ?_)|refine⟨rfl,?_⟩)|(refine cf.call rfl ?_)|(refine c2.bO rfl fun h=> ?_))
      exact aW (ai _ _)
     |ok n_ j3=>
      have c2:=dz (m:=m) (e:=0) hl h1;have:=(cT _ _ _ (by omega) h1).2;rw[h1]at h
      try dsimp only[aF.then]at h
      have cp:=eS (l:=l) (m:=m) (e:=0) j3;cases lV:((l.getD j3 aC).1.t==[105,110,116])with
      |true=>
       cases hk:((l.getD j3 aC).1.k !=1)with
       |true=>
        rw[show (if(aq l j3).k=1 then kindOf (aq l j3).t else none)=none from if_neg (bne_iff_ne.1 hk)]at h;dsimp only[aF.then]at h;have cw:=bM (l:=l) (m:=m) (e:=0) 240 j3;obtain rfl:=h;dsimp only[aF.then]at hR;obtain rfl:=hR;iterate 86 all_goals ((try conv=>whnf);try first|(with_reducible first|refine zY ?_|refine zN ?_|refine zT ?_|refine br (fun _=> ?_) (fun _=> ?_)|refine⟨rfl,?_⟩)|(refine cf.call rfl ?_)|(refine c2.call rfl ?_)|(refine bL.call mixed rfl ?_)|(refine cp.call rfl ?_)|(refine cw.bO rfl fun h=> ?_))
        exact aW (ai _ _)
       |false=>
        have kn:(aq l j3).k=1:=ef hk;have hlt:j3<l.length:=bS (l:=l) (k:=1) (beq_iff_eq.2 kn) (by decide);have e1:IntKind.i64.wrap (((j3:Nat):Int)+1)=((j3+1:Nat):Int):=bN (by omega);rw[show (if(aq l j3).k=1 then kindOf (aq l j3).t else none)=some 2 by rw[if_pos kn];unfold kindOf;rw[lV];simp]at h;dsimp only[aF.then]at h;cases h4:cj (aq l) [110,111,116] (j3+1)with
        |true=>
         have c5:=bG (m:=m) (e:=0) hl h4;have:=aI h4;rw[h4]at h;rw[if_pos rfl]at h
         try dsimp only[aF.then]at h
         cases h6:cj (aq l) [110,117,108,108] (j3+2)with
         |false=>
          have c7:=bh (m:=m) (e:=0) hl h6;rw[show aA (aq l) [110,117,108,108] (j3+2)= .bad 240 (j3+2) by unfold aA;rw[h6];rfl]at h
          try dsimp only[aF.then]at h
          obtain rfl:=h;dsimp only[aF.then]at hR;obtain rfl:=hR;iterate 128 all_goals ((try conv=>whnf);try first|rewrite [e1]|(with_reducible first|refine zY ?_|refine zN ?_|refine zT ?_|refine br (fun _=> ?_) (fun _=> ?_)|refine⟨rfl,?_⟩)|(refine cf.call rfl ?_)|(refine c2.call rfl ?_)|(refine bL.call mixed rfl ?_)|(refine cp.call rfl ?_)|(refine cB rfl (by decide) ?_)|(refine c5.call rfl ?_)|(refine dy c7 rfl rfl rfl fun h=> ?_))
          exact aW (ai _ _)
         |true=>
          have c7:=aS (m:=m) (e:=0) hl h6;have:=aI h6;rw[show aA (aq l) [110,117,108,108] (j3+2)= .ok () (j3+3) by unfold aA;rw[h6];rfl]at h
          try dsimp only[aF.then]at h
          try dsimp only[aF.then]at h
          cases h8:cj (aq l) [44] (j3+3)with
          |false=>
           have c9:=bh (m:=m) (e:=0) hl h8;rw[show aA (aq l) [44] (j3+3)= .bad 240 (j3+3) by unfold aA;rw[h8];rfl]at h
           try dsimp only[aF.then]at h
           obtain rfl:=h;dsimp only[aF.then]at hR;obtain rfl:=hR;iterate 142 all_goals ((try conv=>whnf);try first|rewrite [e1]|(with_reducible first|refine zY ?_|refine zN ?_|refine zT ?_|refine br (fun _=> ?_) (fun _=> ?_)|refine⟨rfl,?_⟩)|(refine cf.call rfl ?_)|(refine c2.call rfl ?_)|(refine bL.call mixed rfl ?_)|(refine cp.call rfl ?_)|(refine cB rfl (by decide) ?_)|(refine c5.call rfl ?_)|(refine aP c7 rfl rfl rfl ?_)|(refine dy c9 rfl rfl rfl fun h=> ?_))
           exact aW (ai _ _)
          |true=>
           have c9:=aS (m:=m) (e:=0) hl h8;have:=aI h8;rw[show aA (aq l) [44] (j3+3)= .ok () (j3+4) by unfold aA;rw[h8];rfl]at h
           try dsimp only[aF.then]at h
           iterate 186 all_goals ((try conv=>whnf);try first|rewrite [e1]|(with_reducible first|refine zY ?_|refine zN ?_|refine zT ?_|refine br (fun _=> ?_) (fun _=> ?_)|refine⟨rfl,?_⟩)|(refine cf.call rfl ?_)|(refine c2.call rfl ?_)|(refine bL.call mixed rfl ?_)|(refine cp.call rfl ?_)|(refine cB rfl (by decide) ?_)|(refine c5.call rfl ?_)|(refine aP c7 rfl rfl rfl ?_)|(refine aP c9 rfl rfl rfl ?_))
           refine⟨fun j=> !(Nat.beq j 0||Nat.beq j 1||Nat.beq j 3||Nat.beq j 9),_,_,aQ,.refl,?_⟩;iterate 14 all_goals ((try conv=>whnf);try first|(with_reducible first|refine zY ?_|refine zN ?_|refine zT ?_|refine br (fun _=> ?_) (fun _=> ?_)|refine⟨rfl,?_⟩)|(refine aN (eK rfl) ?_)|(refine aN (eX 10 [] (⟨n_,2,true⟩:fe)) ?_))
           exact⟨.L true 0 [(⟨n_,2,true⟩:fe)] 11 (j3+4) rfl (by show 0<1;decide) (by omega) h,by show 11<13;decide,rfl,rfl⟩
        |false=>
         have c5:=bU (m:=m) (e:=0) hl h4;rw[h4]at h;rw[if_neg (by decide)]at h
         try dsimp only[aF.then]at h
         try dsimp only[aF.then]at h
         cases h10:cj (aq l) [44] (j3+1)with
         |false=>
          have mh:=bh (m:=m) (e:=0) hl h10;rw[show aA (aq l) [44] (j3+1)= .bad 240 (j3+1) by unfold aA;rw[h10];rfl]at h
          try dsimp only[aF.then]at h
          obtain rfl:=h;dsimp only[aF.then]at hR;obtain rfl:=hR;iterate 128 all_goals ((try conv=>whnf);try first|rewrite [e1]|(with_reducible first|refine zY ?_|refine zN ?_|refine zT ?_|refine br (fun _=> ?_) (fun _=> ?_)|refine⟨rfl,?_⟩)|(refine cf.call rfl ?_)|(refine c2.call rfl ?_)|(refine bL.call mixed rfl ?_)|(refine cp.call rfl ?_)|(refine cB rfl (by decide) ?_)|(refine c5.call rfl ?_)|(refine dy mh rfl rfl rfl fun h=> ?_))
          exact aW (ai _ _)
         |true=>
          have mh:=aS (m:=m) (e:=0) hl h10;have:=aI h10;rw[show aA (aq l) [44] (j3+1)= .ok () (j3+2) by unfold aA;rw[h10];rfl]at h
          try dsimp only[aF.then]at h
          iterate 172 all_goals ((try conv=>whnf);try first|rewrite [e1]|(with_reducible first|refine zY ?_|refine zN ?_|refine zT ?_|refine br (fun _=> ?_) (fun _=> ?_)|refine⟨rfl,?_⟩)|(refine cf.call rfl ?_)|(refine c2.call rfl ?_)|(refine bL.call mixed rfl ?_)|(refine cp.call rfl ?_)|(refine cB rfl (by decide) ?_)|(refine c5.call rfl ?_)|(refine aP mh rfl rfl rfl ?_))
          refine⟨fun j=> !(Nat.beq j 0||Nat.beq j 1||Nat.beq j 3||Nat.beq j 8),_,_,aQ,.refl,?_⟩;iterate 14 all_goals ((try conv=>whnf);try first|(with_reducible first|refine zY ?_|refine zN ?_|refine zT ?_|refine br (fun _=> ?_) (fun _=> ?_)|refine⟨rfl,?_⟩)|(refine aN (eK rfl) ?_)|(refine aN (eX 10 [] (⟨n_,2,false⟩:fe)) ?_))
          exact⟨.L false 0 [(⟨n_,2,false⟩:fe)] 11 (j3+2) rfl (by show 0<1;decide) (by omega) h,by show 11<13;decide,rfl,rfl⟩
      |false=>
       cases rH:((l.getD j3 aC).1.t==[116,101,120,116])with
       |true=>
        cases hk:((l.getD j3 aC).1.k !=1)with
        |true=>
         rw[show (if(aq l j3).k=1 then kindOf (aq l j3).t else none)=none from if_neg (bne_iff_ne.1 hk)]at h;dsimp only[aF.then]at h;have cw:=bM (l:=l) (m:=m) (e:=0) 240 j3;obtain rfl:=h;dsimp only[aF.then]at hR;obtain rfl:=hR;iterate 86 all_goals ((try conv=>whnf);try first|(with_reducible first|refine zY ?_|refine zN ?_|refine zT ?_|refine br (fun _=> ?_) (fun _=> ?_)|refine⟨rfl,?_⟩)|(refine cf.call rfl ?_)|(refine c2.call rfl ?_)|(refine bL.call mixed rfl ?_)|(refine cp.call rfl ?_)|(refine cw.bO rfl fun h=> ?_))
         exact aW (ai _ _)
        |false=>
         have kn:(aq l j3).k=1:=ef hk;have hlt:j3<l.length:=bS (l:=l) (k:=1) (beq_iff_eq.2 kn) (by decide);have e1:IntKind.i64.wrap (((j3:Nat):Int)+1)=((j3+1:Nat):Int):=bN (by omega);rw[show (if(aq l j3).k=1 then kindOf (aq l j3).t else none)=some 3 by rw[if_pos kn];unfold kindOf;rw[lV,rH];simp]at h;dsimp only[aF.then]at h;cases h12:cj (aq l) [110,111,116] (j3+1)with
         |true=>
          have iV:=bG (m:=m) (e:=0) hl h12;have:=aI h12;rw[h12]at h;rw[if_pos rfl]at h
          try dsimp only[aF.then]at h
          cases xO:cj (aq l) [110,117,108,108] (j3+2)with
          |false=>
           have mU:=bh (m:=m) (e:=0) hl xO;rw[show aA (aq l) [110,117,108,108] (j3+2)= .bad 240 (j3+2) by unfold aA;rw[xO];rfl]at h
           try dsimp only[aF.then]at h
           obtain rfl:=h;dsimp only[aF.then]at hR;obtain rfl:=hR;iterate 128 all_goals ((try conv=>whnf);try first|rewrite [e1]|(with_reducible first|refine zY ?_|refine zN ?_|refine zT ?_|refine br (fun _=> ?_) (fun _=> ?_)|refine⟨rfl,?_⟩)|(refine cf.call rfl ?_)|(refine c2.call rfl ?_)|(refine bL.call mixed rfl ?_)|(refine cp.call rfl ?_)|(refine cB rfl (by decide) ?_)|(refine iV.call rfl ?_)|(refine dy mU rfl rfl rfl fun h=> ?_))
           exact aW (ai _ _)
          |true=>
           have mU:=aS (m:=m) (e:=0) hl xO;have:=aI xO;rw[show aA (aq l) [110,117,108,108] (j3+2)= .ok () (j3+3) by unfold aA;rw[xO];rfl]at h
           try dsimp only[aF.then]at h
           try dsimp only[aF.then]at h
           cases tV:cj (aq l) [44] (j3+3)with
           |false=>
            have hG:=bh (m:=m) (e:=0) hl tV;rw[show aA (aq l) [44] (j3+3)= .bad 240 (j3+3) by unfold aA;rw[tV];rfl]at h
            try dsimp only[aF.then]at h
            obtain rfl:=h;dsimp only[aF.then]at hR;obtain rfl:=hR;iterate 142 all_goals ((try conv=>whnf);try first|rewrite [e1]|(with_reducible first|refine zY ?_|refine zN ?_|refine zT ?_|refine br (fun _=> ?_) (fun _=> ?_)|refine⟨rfl,?_⟩)|(refine cf.call rfl ?_)|(refine c2.call rfl ?_)|(refine bL.call mixed rfl ?_)|(refine cp.call rfl ?_)|(refine cB rfl (by decide) ?_)|(refine iV.call rfl ?_)|(refine aP mU rfl rfl rfl ?_)|(refine dy hG rfl rfl rfl fun h=> ?_))
            exact aW (ai _ _)
           |true=>
            have hG:=aS (m:=m) (e:=0) hl tV;have:=aI tV;rw[show aA (aq l) [44] (j3+3)= .ok () (j3+4) by unfold aA;rw[tV];rfl]at h
            try dsimp only[aF.then]at h
            iterate 186 all_goals ((try conv=>whnf);try first|rewrite [e1]|(with_reducible first|refine zY ?_|refine zN ?_|refine zT ?_|refine br (fun _=> ?_) (fun _=> ?_)|refine⟨rfl,?_⟩)|(refine cf.call rfl ?_)|(refine c2.call rfl ?_)|(refine bL.call mixed rfl ?_)|(refine cp.call rfl ?_)|(refine cB rfl (by decide) ?_)|(refine iV.call rfl ?_)|(refine aP mU rfl rfl rfl ?_)|(refine aP hG rfl rfl rfl ?_))
            refine⟨fun j=> !(Nat.beq j 0||Nat.beq j 1||Nat.beq j 3||Nat.beq j 9),_,_,aQ,.refl,?_⟩;iterate 14 all_goals ((try conv=>whnf);try first|(with_reducible first|refine zY ?_|refine zN ?_|refine zT ?_|refine br (fun _=> ?_) (fun _=> ?_)|refine⟨rfl,?_⟩)|(refine aN (eK rfl) ?_)|(refine aN (eX 10 [] (⟨n_,3,true⟩:fe)) ?_))
            exact⟨.L true 0 [(⟨n_,3,true⟩:fe)] 11 (j3+4) rfl (by show 0<1;decide) (by omega) h,by show 11<13;decide,rfl,rfl⟩
         |false=>
          have iV:=bU (m:=m) (e:=0) hl h12;rw[h12]at h;rw[if_neg (by decide)]at h
          try dsimp only[aF.then]at h
          try dsimp only[aF.then]at h
          cases rI:cj (aq l) [44] (j3+1)with
          |false=>
           have rJ:=bh (m:=m) (e:=0) hl rI;rw[show aA (aq l) [44] (j3+1)= .bad 240 (j3+1) by unfold aA;rw[rI];rfl]at h
           try dsimp only[aF.then]at h
           obtain rfl:=h;dsimp only[aF.then]at hR;obtain rfl:=hR;iterate 128 all_goals ((try conv=>whnf);try first|rewrite [e1]|(with_reducible first|refine zY ?_|refine zN ?_|refine zT ?_|refine br (fun _=> ?_) (fun _=> ?_)|refine⟨rfl,?_⟩)|(refine cf.call rfl ?_)|(refine c2.call rfl ?_)|(refine bL.call mixed rfl ?_)|(refine cp.call rfl ?_)|(refine cB rfl (by decide) ?_)|(refine iV.call rfl ?_)|(refine dy rJ rfl rfl rfl fun h=> ?_))
           exact aW (ai _ _)
          |true=>
           have rJ:=aS (m:=m) (e:=0) hl rI;have:=aI rI;rw[show aA (aq l) [44] (j3+1)= .ok () (j3+2) by unfold aA;rw[rI];rfl]at h
           try dsimp only[aF.then]at h
           iterate 172 all_goals ((try conv=>whnf);try first|rewrite [e1]|(with_reducible first|refine zY ?_|refine zN ?_|refine zT ?_|refine br (fun _=> ?_) (fun _=> ?_)|refine⟨rfl,?_⟩)|(refine cf.call rfl ?_)|(refine c2.call rfl ?_)|(refine bL.call mixed rfl ?_)|(refine cp.call rfl ?_)|(refine cB rfl (by decide) ?_)|(refine iV.call rfl ?_)|(refine aP rJ rfl rfl rfl ?_))
           refine⟨fun j=> !(Nat.beq j 0||Nat.beq j 1||Nat.beq j 3||Nat.beq j 8),_,_,aQ,.refl,?_⟩;iterate 14 all_goals ((try conv=>whnf);try first|(with_reducible first|refine zY ?_|refine zN ?_|refine zT ?_|refine br (fun _=> ?_) (fun _=> ?_)|refine⟨rfl,?_⟩)|(refine aN (eK rfl) ?_)|(refine aN (eX 10 [] (⟨n_,3,false⟩:fe)) ?_))
           exact⟨.L false 0 [(⟨n_,3,false⟩:fe)] 11 (j3+2) rfl (by show 0<1;decide) (by omega) h,by show 11<13;decide,rfl,rfl⟩
       |false=>
        cases vO:((l.getD j3 aC).1.t==[98,111,111,108])with
        |true=>
         cases hk:((l.getD j3 aC).1.k !=1)with
         |true=>
          rw[show (if(aq l j3).k=1 then kindOf (aq l j3).t else none)=none from if_neg (bne_iff_ne.1 hk)]at h;dsimp only[aF.then]at h;have cw:=bM (l:=l) (m:=m) (e:=0) 240 j3;obtain rfl:=h;dsimp only[aF.then]at hR;obtain rfl:=hR;iterate 86 all_goals ((try conv=>whnf);try first|(with_reducible first|refine zY ?_|refine zN ?_|refine zT ?_|refine br (fun _=> ?_) (fun _=> ?_)|refine⟨rfl,?_⟩)|(refine cf.call rfl ?_)|(refine c2.call rfl ?_)|(refine bL.call mixed rfl ?_)|(refine cp.call rfl ?_)|(refine cw.bO rfl fun h=> ?_))
          exact aW (ai _ _)
         |false=>
          have kn:(aq l j3).k=1:=ef hk;have hlt:j3<l.length:=bS (l:=l) (k:=1) (beq_iff_eq.2 kn) (by decide);have e1:IntKind.i64.wrap (((j3:Nat):Int)+1)=((j3+1:Nat):Int):=bN (by omega);rw[show (if(aq l j3).k=1 then kindOf (aq l j3).t else none)=some 1 by rw[if_pos kn];unfold kindOf;rw[lV,rH,vO];simp]at h;dsimp only[aF.then]at h;cases xP:cj (aq l) [110,111,116] (j3+1)with
          |true=>
           have lg:=bG (m:=m) (e:=0) hl xP;have:=aI xP;rw[xP]at h;rw[if_pos rfl]at h
           try dsimp only[aF.then]at h
           cases Cn:cj (aq l) [110,117,108,108] (j3+2)with
           |false=>
            have FK:=bh (m:=m) (e:=0) hl Cn;rw[show aA (aq l) [110,117,108,108] (j3+2)= .bad 240 (j3+2) by unfold aA;rw[Cn];rfl]at h
            try dsimp only[aF.then]at h
            obtain rfl:=h;dsimp only[aF.then]at hR;obtain rfl:=hR;iterate 128 all_goals ((try conv=>whnf);try first|rewrite [e1]|(with_reducible first|refine zY ?_|refine zN ?_|refine zT ?_|refine br (fun _=> ?_) (fun _=> ?_)|refine⟨rfl,?_⟩)|(refine cf.call rfl ?_)|(refine c2.call rfl ?_)|(refine bL.call mixed rfl ?_)|(refine cp.call rfl ?_)|(refine cB rfl (by decide) ?_)|(refine lg.call rfl ?_)|(refine dy FK rfl rfl rfl fun h=> ?_))
            exact aW (ai _ _)
           |true=>
            have FK:=aS (m:=m) (e:=0) hl Cn;have:=aI Cn;rw[show aA (aq l) [110,117,108,108] (j3+2)= .ok () (j3+3) by unfold aA;rw[Cn];rfl]at h
            try dsimp only[aF.then]at h
            try dsimp only[aF.then]at h
            cases Co:cj (aq l) [44] (j3+3)with
            |false=>
             have Jx:=bh (m:=m) (e:=0) hl Co;rw[show aA (aq l) [44] (j3+3)= .bad 240 (j3+3) by unfold aA;rw[Co];rfl]at h
             try dsimp only[aF.then]at h
             obtain rfl:=h;dsimp only[aF.then]at hR;obtain rfl:=hR;iterate 142 all_goals ((try conv=>whnf);try first|rewrite [e1]|(with_reducible first|refine zY ?_|refine zN ?_|refine zT ?_|refine br (fun _=> ?_) (fun _=> ?_)|refine⟨rfl,?_⟩)|(refine cf.call rfl ?_)|(refine c2.call rfl ?_)|(refine bL.call mixed rfl ?_)|(refine cp.call rfl ?_)|(refine cB rfl (by decide) ?_)|(refine lg.call rfl ?_)|(refine aP FK rfl rfl rfl ?_)|(refine dy Jx rfl rfl rfl fun h=> ?_))
             exact aW (ai _ _)
            |true=>
             have Jx:=aS (m:=m) (e:=0) hl Co;have:=aI Co;rw[show aA (aq l) [44] (j3+3)= .ok () (j3+4) by unfold aA;rw[Co];rfl]at h
             try dsimp only[aF.then]at h
             iterate 186 all_goals ((try conv=>whnf);try first|rewrite [e1]|(with_reducible first|refine zY ?_|refine zN ?_|refine zT ?_|refine br (fun _=> ?_) (fun _=> ?_)|refine⟨rfl,?_⟩)|(refine cf.call rfl ?_)|(refine c2.call rfl ?_)|(refine bL.call mixed rfl ?_)|(refine cp.call rfl ?_)|(refine cB rfl (by decide) ?_)|(refine lg.call rfl ?_)|(refine aP FK rfl rfl rfl ?_)|(refine aP Jx rfl rfl rfl ?_))
             refine⟨fun j=> !(Nat.beq j 0||Nat.beq j 1||Nat.beq j 3||Nat.beq j 9),_,_,aQ,.refl,?_⟩;iterate 14 all_goals ((try conv=>whnf);try first|(with_reducible first|refine zY ?_|refine zN ?_|refine zT ?_|refine br (fun _=> ?_) (fun _=> ?_)|refine⟨rfl,?_⟩)|(refine aN (eK rfl) ?_)|(refine aN (eX 10 [] (⟨n_,1,true⟩:fe)) ?_))
             exact⟨.L true 0 [(⟨n_,1,true⟩:fe)] 11 (j3+4) rfl (by show 0<1;decide) (by omega) h,by show 11<13;decide,rfl,rfl⟩
          |false=>
           have lg:=bU (m:=m) (e:=0) hl xP;rw[xP]at h;rw[if_neg (by decide)]at h
           try dsimp only[aF.then]at h
           try dsimp only[aF.then]at h
           cases xN:cj (aq l) [44] (j3+1)with
           |false=>
            have Ao:=bh (m:=m) (e:=0) hl xN;rw[show aA (aq l) [44] (j3+1)= .bad 240 (j3+1) by unfold aA;rw[xN];rfl]at h
            try dsimp only[aF.then]at h
            obtain rfl:=h;dsimp only[aF.then]at hR;obtain rfl:=hR;iterate 128 all_goals ((try conv=>whnf);try first|rewrite [e1]|(with_reducible first|refine zY ?_|refine zN ?_|refine zT ?_|refine br (fun _=> ?_) (fun _=> ?_)|refine⟨rfl,?_⟩)|(refine cf.call rfl ?_)|(refine c2.call rfl ?_)|(refine bL.call mixed rfl ?_)|(refine cp.call rfl ?_)|(refine cB rfl (by decide) ?_)|(refine lg.call rfl ?_)|(refine dy Ao rfl rfl rfl fun h=> ?_))
            exact aW (ai _ _)
           |true=>
            have Ao:=aS (m:=m) (e:=0) hl xN;have:=aI xN;rw[show aA (aq l) [44] (j3+1)= .ok () (j3+2) by unfold aA;rw[xN];rfl]at h
            try dsimp only[aF.then]at h
            iterate 172 all_goals ((try conv=>whnf);try first|rewrite [e1]|(with_reducible first|refine zY ?_|refine zN ?_|refine zT ?_|refine br (fun _=> ?_) (fun _=> ?_)|refine⟨rfl,?_⟩)|(refine cf.call rfl ?_)|(refine c2.call rfl ?_)|(refine bL.call mixed rfl ?_)|(refine cp.call rfl ?_)|(refine cB rfl (by decide) ?_)|(refine lg.call rfl ?_)|(refine aP Ao rfl rfl rfl ?_))
            refine⟨fun j=> !(Nat.beq j 0||Nat.beq j 1||Nat.beq j 3||Nat.beq j 8),_,_,aQ,.refl,?_⟩;iterate 14 all_goals ((try conv=>whnf);try first|(with_reducible first|refine zY ?_|refine zN ?_|refine zT ?_|refine br (fun _=> ?_) (fun _=> ?_)|refine⟨rfl,?_⟩)|(refine aN (eK rfl) ?_)|(refine aN (eX 10 [] (⟨n_,1,false⟩:fe)) ?_))
            exact⟨.L false 0 [(⟨n_,1,false⟩:fe)] 11 (j3+2) rfl (by show 0<1;decide) (by omega) h,by show 11<13;decide,rfl,rfl⟩
        |false=>
         rw[show (if(aq l j3).k=1 then kindOf (aq l j3).t else none)=none by unfold kindOf;rw[lV,rH,vO];simp]at h;dsimp only[aF.then]at h;have cw:=bM (l:=l) (m:=m) (e:=0) 240 j3;obtain rfl:=h;dsimp only[aF.then]at hR;obtain rfl:=hR;iterate 86 all_goals ((try conv=>whnf);try first|(with_reducible first|refine zY ?_|refine zN ?_|refine zT ?_|refine br (fun _=> ?_) (fun _=> ?_)|refine⟨rfl,?_⟩)|(refine cf.call rfl ?_)|(refine c2.call rfl ?_)|(refine bL.call mixed rfl ?_)|(refine cp.call rfl ?_)|(refine cw.bO rfl fun h=> ?_))
         exact aW (ai _ _)
    ·cases b
     all_goals skip
     ·have hg:Nat.beq g g=true:=Nat.beq_refl g
      have hb:decide ((0:Int)<((xs.length:Nat):Int))=true:=decide_eq_true (by omega);cases hp:cj (aq l) [112,114,105,109,97,114,121] i with
      |true=>
       have cg:=bG (m:=m) (e:=0) hl hp;have:=aI hp;have h1:aF.ok xs (i+1)=r:=by rw[<- h];cases f<;>simp[gY,hp,h0]
       obtain rfl:=h1;dsimp only[aF.then]at hR;unfold nI at hR;cases h1:cj (aq l) [107,101,121] (i+1)with
       |false=>
        have c2:=bh (m:=m) (e:=0) hl h1;rw[show aA (aq l) [107,101,121] (i+1)= .bad 240 (i+1) by unfold aA;rw[h1];rfl]at hR
        try dsimp only[aF.then]at hR
        obtain rfl:=hR;iterate 44 all_goals ((try conv=>whnf);try first|(with_reducible first|refine zY ?_|refine zN ?_|refine zT ?_|refine br (fun _=> ?_) (fun _=> ?_)|refine⟨rfl,?_⟩)|(refine cg.call rfl ?_)|(refine dy c2 rfl rfl rfl fun h=> ?_))
        exact aW (ai _ _)
       |true=>
        have c2:=aS (m:=m) (e:=0) hl h1;have:=aI h1;rw[show aA (aq l) [107,101,121] (i+1)= .ok () (i+2) by unfold aA;rw[h1];rfl]at hR
        try dsimp only[aF.then]at hR
        have c4:=nJ (m:=m) (e:=0) hl 4 (by decide) (i+2) (by omega);cases h3:iB (aq l) l.length (dP aH) 4 (i+2)with
        |bad er j=>
         rw[h3]at c4;dsimp only[aF.then,lA]at c4;rw[h3]at hR
         try dsimp only[aF.then]at hR
         obtain rfl:=hR;iterate 58 all_goals ((try conv=>whnf);try first|(with_reducible first|refine zY ?_|refine zN ?_|refine zT ?_|refine br (fun _=> ?_) (fun _=> ?_)|refine⟨rfl,?_⟩)|(refine cg.call rfl ?_)|(refine aP c2 rfl rfl rfl ?_)|(refine c4.bO rfl fun h=> ?_))
         exact aW (ai _ _)
        |ok key j5=>
         rw[h3]at c4;have:=(nK _ _ _ (by omega) h3).2;dsimp only[aF.then,lA]at c4;rw[h3]at hR
         try dsimp only[aF.then]at hR
         cases h6:cj (aq l) [41] j5 with
         |false=>
          have c7:=bh (m:=m) (e:=0) hl h6;rw[show aA (aq l) [41] j5= .bad 240 j5 by unfold aA;rw[h6];rfl]at hR
          try dsimp only[aF.then]at hR
          obtain rfl:=hR;iterate 72 all_goals ((try conv=>whnf);try first|(with_reducible first|refine zY ?_|refine zN ?_|refine zT ?_|refine br (fun _=> ?_) (fun _=> ?_)|refine⟨rfl,?_⟩)|(refine cg.call rfl ?_)|(refine aP c2 rfl rfl rfl ?_)|(refine c4.call rfl ?_)|(refine dy c7 rfl rfl rfl fun h=> ?_))
          exact aW (ai _ _)
         |true=>
          have c7:=aS (m:=m) (e:=0) hl h6;have:=aI h6;rw[show aA (aq l) [41] j5= .ok () (j5+1) by unfold aA;rw[h6];rfl]at hR
          try dsimp only[aF.then]at hR
          obtain rfl:=hR;iterate 86 all_goals ((try conv=>whnf);try first|(with_reducible first|refine zY ?_|refine zN ?_|refine zT ?_|refine br (fun _=> ?_) (fun _=> ?_)|refine⟨rfl,?_⟩)|(refine cg.call rfl ?_)|(refine aP c2 rfl rfl rfl ?_)|(refine c4.call rfl ?_)|(refine aP c7 rfl rfl rfl ?_))
          exact bT (dX {kind:=5,name:=n,gX:=xs,key:=key} (qm (vs:=xs.map jN) rfl (by simp) (fun v hv=>by obtain⟨x,_,rfl⟩:=List.mem_map.1 hv;exact FG x)) (.lit (bx _ _)) .nil .nil .nil .nil .nil .nil .nil .nil) rfl
      |false=>
       have cg:=bU (m:=m) (e:=0) hl hp;cases f with
       |zero=>
        rw[gY,if_neg (by rw[hp];decide)]at h;have cf:=sI (l:=l) (m:=m) (e:=0) (n:=xs.length) (most:=12) (by omega) i;obtain rfl:=h;dsimp only[aF.then]at hR;obtain rfl:=hR;iterate 44 all_goals ((try conv=>whnf);try first|(with_reducible first|refine zY ?_|refine zN ?_|refine zT ?_|refine br (fun _=> ?_) (fun _=> ?_)|refine⟨rfl,?_⟩)|(refine cg.call rfl ?_)|(refine cf.bO rfl fun h=> ?_))
        exact aW (ai _ _)
       |succ f=>
        rw[gY,if_neg (by rw[hp];simp)]at h;have cf:=nG (l:=l) (m:=m) (e:=0) (n:=xs.length) (most:=12) (by omega) i;unfold vm at h;cases h1:de (aq l) (dP aH) i with
        |bad er j=>
         have c2:=cM (m:=m) (e:=0) hl h1;rw[h1]at h
         try dsimp only[aF.then]at h
         obtain rfl:=h;dsimp only[aF.then]at hR;obtain rfl:=hR;iterate 58 all_goals ((try conv=>whnf);try first|(with_reducible first|refine zY ?_|refine zN ?_|refine zT ?_|refine br (fun _=> ?_) (fun _=> ?_)|refine⟨rfl,?_⟩)|(refine cg.call rfl ?_)|(refine cf.call rfl ?_)|(refine c2.bO rfl fun h=> ?_))
         exact aW (ai _ _)
        |ok n_ j3=>
         have c2:=dz (m:=m) (e:=0) hl h1;have:=(cT _ _ _ (by omega) h1).2;rw[h1]at h
         try dsimp only[aF.then]at h
         have cp:=eS (l:=l) (m:=m) (e:=0) j3;cases lV:((l.getD j3 aC).1.t==[105,110,116])with
         |true=>
          cases hk:((l.getD j3 aC).1.k !=1)with
          |true=>
           rw[show (if(aq l j3).k=1 then kindOf (aq l j3).t else none)=none from if_neg (bne_iff_ne.1 hk)]at h;dsimp only[aF.then]at h;have cw:=bM (l:=l) (m:=m) (e:=0) 240 j3;obtain rfl:=h;dsimp only[aF.then]at hR;obtain rfl:=hR;iterate 100 all_goals ((try conv=>whnf);try first|(with_reducible first|refine zY ?_|refine zN ?_|refine zT ?_|refine br (fun _=> ?_) (fun _=> ?_)|refine⟨rfl,?_⟩)|(refine cg.call rfl ?_)|(refine cf.call rfl ?_)|(refine c2.call rfl ?_)|(refine bL.call mixed rfl ?_)|(refine cp.call rfl ?_)|(refine cw.bO rfl fun h=> ?_))
           exact aW (ai _ _)
          |false=>
           have kn:(aq l j3).k=1:=ef hk;have hlt:j3<l.length:=bS (l:=l) (k:=1) (beq_iff_eq.2 kn) (by decide);have e1:IntKind.i64.wrap (((j3:Nat):Int)+1)=((j3+1:Nat):Int):=bN (by omega);rw[show (if(aq l j3).k=1 then kindOf (aq l j3).t else none)=some 2 by rw[if_pos kn];unfold kindOf;rw[lV];simp]at h;dsimp only[aF.then]at h;cases h4:cj (aq l) [110,111,116] (j3+1)with
           |true=>
            have c5:=bG (m:=m) (e:=0) hl h4;have:=aI h4;rw[h4]at h;rw[if_pos rfl]at h
            try dsimp only[aF.then]at h
            cases h6:cj (aq l) [110,117,108,108] (j3+2)with
            |false=>
             have c7:=bh (m:=m) (e:=0) hl h6;rw[show aA (aq l) [110,117,108,108] (j3+2)= .bad 240 (j3+2) by unfold aA;rw[h6];rfl]at h
             try dsimp only[aF.then]at h
             obtain rfl:=h;dsimp only[aF.then]at hR;obtain rfl:=hR;iterate 142 all_goals ((try conv=>whnf);try first|rewrite [e1]|(with_reducible first|refine zY ?_|refine zN ?_|refine zT ?_|refine br (fun _=> ?_) (fun _=> ?_)|refine⟨rfl,?_⟩)|(refine cg.call rfl ?_)|(refine cf.call rfl ?_)|(refine c2.call rfl ?_)|(refine bL.call mixed rfl ?_)|(refine cp.call rfl ?_)|(refine bA (by simp) rfl (by decide) rfl (by omega) (by omega) ?_)|(refine c5.call rfl ?_)|(refine dy c7 rfl rfl rfl fun h=> ?_))
             exact aW (ai _ _)
            |true=>
             have c7:=aS (m:=m) (e:=0) hl h6;have:=aI h6;rw[show aA (aq l) [110,117,108,108] (j3+2)= .ok () (j3+3) by unfold aA;rw[h6];rfl]at h
             try dsimp only[aF.then]at h
             try dsimp only[aF.then]at h
             cases h8:cj (aq l) [44] (j3+3)with
             |false=>
              have c9:=bh (m:=m) (e:=0) hl h8;rw[show aA (aq l) [44] (j3+3)= .bad 240 (j3+3) by unfold aA;rw[h8];rfl]at h
              try dsimp only[aF.then]at h
              obtain rfl:=h;dsimp only[aF.then]at hR;obtain rfl:=hR;iterate 156 all_goals ((try conv=>whnf);try first|rewrite [e1]|(with_reducible first|refine zY ?_|refine zN ?_|refine zT ?_|refine br (fun _=> ?_) (fun _=> ?_)|refine⟨rfl,?_⟩)|(refine cg.call rfl ?_)|(refine cf.call rfl ?_)|(refine c2.call rfl ?_)|(refine bL.call mixed rfl ?_)|(refine cp.call rfl ?_)|(refine bA (by simp) rfl (by decide) rfl (by omega) (by omega) ?_)|(refine c5.call rfl ?_)|(refine aP c7 rfl rfl rfl ?_)|(refine dy c9 rfl rfl rfl fun h=> ?_))
              exact aW (ai _ _)
             |true=>
              have c9:=aS (m:=m) (e:=0) hl h8;have:=aI h8;rw[show aA (aq l) [44] (j3+3)= .ok () (j3+4) by unfold aA;rw[h8];rfl]at h
              try dsimp only[aF.then]at h
              iterate 200 all_goals ((try conv=>whnf);try first|rewrite [e1]|(with_reducible first|refine zY ?_|refine zN ?_|refine zT ?_|refine br (fun _=> ?_) (fun _=> ?_)|refine⟨rfl,?_⟩)|(refine cg.call rfl ?_)|(refine cf.call rfl ?_)|(refine c2.call rfl ?_)|(refine bL.call mixed rfl ?_)|(refine cp.call rfl ?_)|(refine bA (by simp) rfl (by decide) rfl (by omega) (by omega) ?_)|(refine c5.call rfl ?_)|(refine aP c7 rfl rfl rfl ?_)|(refine aP c9 rfl rfl rfl ?_))
              refine⟨fun j=> !(Nat.beq j 0||Nat.beq j 1||Nat.beq j 3||Nat.beq j 8),_,_,aQ,.refl,?_⟩;iterate 14 all_goals ((try conv=>whnf);try first|(with_reducible first|refine zY ?_|refine zN ?_|refine zT ?_|refine br (fun _=> ?_) (fun _=> ?_)|refine⟨rfl,?_⟩)|(refine aN (eK rfl) ?_)|(refine aN (eX 10 xs (⟨n_,2,true⟩:fe)) ?_))
              have em:(xs++[(⟨n_,2,true⟩:fe)]).map jN=xs.map jN++[jN (⟨n_,2,true⟩:fe)]:=List.map_append;have el:(xs++[(⟨n_,2,true⟩:fe)]).length=xs.length+1:=by simp
              exact⟨.L false (g+1) (xs++[(⟨n_,2,true⟩:fe)]) f (j3+4) (by rw[el];omega) (by rw[el];omega) (by omega) h,Nat.lt_succ_self f,rfl,by dsimp only[xb.hp];rw[em,el]⟩
           |false=>
            have c5:=bU (m:=m) (e:=0) hl h4;rw[h4]at h;rw[if_neg (by decide)]at h
            try dsimp only[aF.then]at h
            try dsimp only[aF.then]at h
            cases h10:cj (aq l) [44] (j3+1)with
            |false=>
             have mh:=bh (m:=m) (e:=0) hl h10;rw[show aA (aq l) [44] (j3+1)= .bad 240 (j3+1) by unfold aA;rw[h10];rfl]at h
             try dsimp only[aF.then]at h
             obtain rfl:=h;dsimp only[aF.then]at hR;obtain rfl:=hR;iterate 142 all_goals ((try conv=>whnf);try first|rewrite [e1]|(with_reducible first|refine zY ?_|refine zN ?_|refine zT ?_|refine br (fun _=> ?_) (fun _=> ?_)|refine⟨rfl,?_⟩)|(refine cg.call rfl ?_)|(refine cf.call rfl ?_)|(refine c2.call rfl ?_)|(refine bL.call mixed rfl ?_)|(refine cp.call rfl ?_)|(refine bA (by simp) rfl (by decide) rfl (by omega) (by omega) ?_)|(refine c5.call rfl ?_)|(refine dy mh rfl rfl rfl fun h=> ?_))
             exact aW (ai _ _)
            |true=>
             have mh:=aS (m:=m) (e:=0) hl h10;have:=aI h10;rw[show aA (aq l) [44] (j3+1)= .ok () (j3+2) by unfold aA;rw[h10];rfl]at h
             try dsimp only[aF.then]at h
             iterate 186 all_goals ((try conv=>whnf);try first|rewrite [e1]|(with_reducible first|refine zY ?_|refine zN ?_|refine zT ?_|refine br (fun _=> ?_) (fun _=> ?_)|refine⟨rfl,?_⟩)|(refine cg.call rfl ?_)|(refine cf.call rfl ?_)|(refine c2.call rfl ?_)|(refine bL.call mixed rfl ?_)|(refine cp.call rfl ?_)|(refine bA (by simp) rfl (by decide) rfl (by omega) (by omega) ?_)|(refine c5.call rfl ?_)|(refine aP mh rfl rfl rfl ?_))
             refine⟨fun j=> !(Nat.beq j 0||Nat.beq j 1||Nat.beq j 3||Nat.beq j 8),_,_,aQ,.refl,?_⟩;iterate 14 all_goals ((try conv=>whnf);try first|(with_reducible first|refine zY ?_|refine zN ?_|refine zT ?_|refine br (fun _=> ?_) (fun _=> ?_)|refine⟨rfl,?_⟩)|(refine aN (eK rfl) ?_)|(refine aN (eX 10 xs (⟨n_,2,false⟩:fe)) ?_))
             have em:(xs++[(⟨n_,2,false⟩:fe)]).map jN=xs.map jN++[jN (⟨n_,2,false⟩:fe)]:=List.map_append;have el:(xs++[(⟨n_,2,false⟩:fe)]).length=xs.length+1:=by simp
             exact⟨.L false (g+1) (xs++[(⟨n_,2,false⟩:fe)]) f (j3+2) (by rw[el];omega) (by rw[el];omega) (by omega) h,Nat.lt_succ_self f,rfl,by dsimp only[xb.hp];rw[em,el]⟩
         |false=>
          cases rH:((l.getD j3 aC).1.t==[116,101,120,116])with
          |true=>
           cases hk:((l.getD j3 aC).1.k !=1)with
           |true=>
            rw[show (if(aq l j3).k=1 then kindOf (aq l j3).t else none)=none from if_neg (bne_iff_ne.1 hk)]at h;dsimp only[aF.then]at h;have cw:=bM (l:=l) (m:=m) (e:=0) 240 j3;obtain rfl:=h;dsimp only[aF.then]at hR;obtain rfl:=hR;iterate 100 all_goals ((try conv=>whnf);try first|(with_reducible first|refine zY ?_|refine zN ?_|refine zT ?_|refine br (fun _=> ?_) (fun _=> ?_)|refine⟨rfl,?_⟩)|(refine cg.call rfl ?_)|(refine cf.call rfl ?_)|(refine c2.call rfl ?_)|(refine bL.call mixed rfl ?_)|(refine cp.call rfl ?_)|(refine cw.bO rfl fun h=> ?_))
            exact aW (ai _ _)
           |false=>
            have kn:(aq l j3).k=1:=ef hk;have hlt:j3<l.length:=bS (l:=l) (k:=1) (beq_iff_eq.2 kn) (by decide);have e1:IntKind.i64.wrap (((j3:Nat):Int)+1)=((j3+1:Nat):Int):=bN (by omega);rw[show (if(aq l j3).k=1 then kindOf (aq l j3).t else none)=some 3 by rw[if_pos kn];unfold kindOf;rw[lV,rH];simp]at h;dsimp only[aF.then]at h;cases h12:cj (aq l) [110,111,116] (j3+1)with
            |true=>
             have iV:=bG (m:=m) (e:=0) hl h12;have:=aI h12;rw[h12]at h;rw[if_pos rfl]at h
             try dsimp only[aF.then]at h
             cases xO:cj (aq l) [110,117,108,108] (j3+2)with
             |false=>
              have mU:=bh (m:=m) (e:=0) hl xO;rw[show aA (aq l) [110,117,108,108] (j3+2)= .bad 240 (j3+2) by unfold aA;rw[xO];rfl]at h
              try dsimp only[aF.then]at h
              obtain rfl:=h;dsimp only[aF.then]at hR;obtain rfl:=hR;iterate 142 all_goals ((try conv=>whnf);try first|rewrite [e1]|(with_reducible first|refine zY ?_|refine zN ?_|refine zT ?_|refine br (fun _=> ?_) (fun _=> ?_)|refine⟨rfl,?_⟩)|(refine cg.call rfl ?_)|(refine cf.call rfl ?_)|(refine c2.call rfl ?_)|(refine bL.call mixed rfl ?_)|(refine cp.call rfl ?_)|(refine bA (by simp) rfl (by decide) rfl (by omega) (by omega) ?_)|(refine iV.call rfl ?_)|(refine dy mU rfl rfl rfl fun h=> ?_))
              exact aW (ai _ _)
             |true=>
              have mU:=aS (m:=m) (e:=0) hl xO;have:=aI xO;rw[show aA (aq l) [110,117,108,108] (j3+2)= .ok () (j3+3) by unfold aA;rw[xO];rfl]at h
              try dsimp only[aF.then]at h
              try dsimp only[aF.then]at h
              cases tV:cj (aq l) [44] (j3+3)with
              |false=>
               have hG:=bh (m:=m) (e:=0) hl tV;rw[show aA (aq l) [44] (j3+3)= .bad 240 (j3+3) by unfold aA;rw[tV];rfl]at h
               try dsimp only[aF.then]at h
               obtain rfl:=h;dsimp only[aF.then]at hR;obtain rfl:=hR;iterate 156 all_goals ((try conv=>whnf);try first|rewrite [e1]|(with_reducible first|refine zY ?_|refine zN ?_|refine zT ?_|refine br (fun _=> ?_) (fun _=> ?_)|refine⟨rfl,?_⟩)|(refine cg.call rfl ?_)|(refine cf.call rfl ?_)|(refine c2.call rfl ?_)|(refine bL.call mixed rfl ?_)|(refine cp.call rfl ?_)|(refine bA (by simp) rfl (by decide) rfl (by omega) (by omega) ?_)|(refine iV.call rfl ?_)|(refine aP mU rfl rfl rfl ?_)|(refine dy hG rfl rfl rfl fun h=> ?_))
               exact aW (ai _ _)
              |true=>
               have hG:=aS (m:=m) (e:=0) hl tV;have:=aI tV;rw[show aA (aq l) [44] (j3+3)= .ok () (j3+4) by unfold aA;rw[tV];rfl]at h
               try dsimp only[aF.then]at h
               iterate 200 all_goals ((try conv=>whnf);try first|rewrite [e1]|(with_reducible first|refine zY ?_|refine zN ?_|refine zT ?_|refine br (fun _=> ?_) (fun _=> ?_)|refine⟨rfl,?_⟩)|(refine cg.call rfl ?_)|(refine cf.call rfl ?_)|(refine c2.call rfl ?_)|(refine bL.call mixed rfl ?_)|(refine cp.call rfl ?_)|(refine bA (by simp) rfl (by decide) rfl (by omega) (by omega) ?_)|(refine iV.call rfl ?_)|(refine aP mU rfl rfl rfl ?_)|(refine aP hG rfl rfl rfl ?_))
               refine⟨fun j=> !(Nat.beq j 0||Nat.beq j 1||Nat.beq j 3||Nat.beq j 8),_,_,aQ,.refl,?_⟩;iterate 14 all_goals ((try conv=>whnf);try first|(with_reducible first|refine zY ?_|refine zN ?_|refine zT ?_|refine br (fun _=> ?_) (fun _=> ?_)|refine⟨rfl,?_⟩)|(refine aN (eK rfl) ?_)|(refine aN (eX 10 xs (⟨n_,3,true⟩:fe)) ?_))
               have em:(xs++[(⟨n_,3,true⟩:fe)]).map jN=xs.map jN++[jN (⟨n_,3,true⟩:fe)]:=List.map_append;have el:(xs++[(⟨n_,3,true⟩:fe)]).length=xs.length+1:=by simp
               exact⟨.L false (g+1) (xs++[(⟨n_,3,true⟩:fe)]) f (j3+4) (by rw[el];omega) (by rw[el];omega) (by omega) h,Nat.lt_succ_self f,rfl,by dsimp only[xb.hp];rw[em,el]⟩
            |false=>
             have iV:=bU (m:=m) (e:=0) hl h12;rw[h12]at h;rw[if_neg (by decide)]at h
             try dsimp only[aF.then]at h
             try dsimp only[aF.then]at h
             cases rI:cj (aq l) [44] (j3+1)with
             |false=>
              have rJ:=bh (m:=m) (e:=0) hl rI;rw[show aA (aq l) [44] (j3+1)= .bad 240 (j3+1) by unfold aA;rw[rI];rfl]at h
              try dsimp only[aF.then]at h
              obtain rfl:=h;dsimp only[aF.then]at hR;obtain rfl:=hR;iterate 142 all_goals ((try conv=>whnf);try first|rewrite [e1]|(with_reducible first|refine zY ?_|refine zN ?_|refine zT ?_|refine br (fun _=> ?_) (fun _=> ?_)|refine⟨rfl,?_⟩)|(refine cg.call rfl ?_)|(refine cf.call rfl ?_)|(refine c2.call rfl ?_)|(refine bL.call mixed rfl ?_)|(refine cp.call rfl ?_)|(refine bA (by simp) rfl (by decide) rfl (by omega) (by omega) ?_)|(refine iV.call rfl ?_)|(refine dy rJ rfl rfl rfl fun h=> ?_))
              exact aW (ai _ _)
             |true=>
              have rJ:=aS (m:=m) (e:=0) hl rI;have:=aI rI;rw[show aA (aq l) [44] (j3+1)= .ok () (j3+2) by unfold aA;rw[rI];rfl]at h
              try dsimp only[aF.then]at h
              iterate 186 all_goals ((try conv=>whnf);try first|rewrite [e1]|(with_reducible first|refine zY ?_|refine zN ?_|refine zT ?_|refine br (fun _=> ?_) (fun _=> ?_)|refine⟨rfl,?_⟩)|(refine cg.call rfl ?_)|(refine cf.call rfl ?_)|(refine c2.call rfl ?_)|(refine bL.call mixed rfl ?_)|(refine cp.call rfl ?_)|(refine bA (by simp) rfl (by decide) rfl (by omega) (by omega) ?_)|(refine iV.call rfl ?_)|(refine aP rJ rfl rfl rfl ?_))
              refine⟨fun j=> !(Nat.beq j 0||Nat.beq j 1||Nat.beq j 3||Nat.beq j 8),_,_,aQ,.refl,?_⟩;iterate 14 all_goals ((try conv=>whnf);try first|(with_reducible first|refine zY ?_|refine zN ?_|refine zT ?_|refine br (fun _=> ?_) (fun _=> ?_)|refine⟨rfl,?_⟩)|(refine aN (eK rfl) ?_)|(refine aN (eX 10 xs (⟨n_,3,false⟩:fe)) ?_))
              have em:(xs++[(⟨n_,3,false⟩:fe)]).map jN=xs.map jN++[jN (⟨n_,3,false⟩:fe)]:=List.map_append;have el:(xs++[(⟨n_,3,false⟩:fe)]).length=xs.length+1:=by simp
              exact⟨.L false (g+1) (xs++[(⟨n_,3,false⟩:fe)]) f (j3+2) (by rw[el];omega) (by rw[el];omega) (by omega) h,Nat.lt_succ_self f,rfl,by dsimp only[xb.hp];rw[em,el]⟩
          |false=>
           cases vO:((l.getD j3 aC).1.t==[98,111,111,108])with
           |true=>
            cases hk:((l.getD j3 aC).1.k !=1)with
            |true=>
             rw[show (if(aq l j3).k=1 then kindOf (aq l j3).t else none)=none from if_neg (bne_iff_ne.1 hk)]at h;dsimp only[aF.then]at h;have cw:=bM (l:=l) (m:=m) (e:=0) 240 j3;obtain rfl:=h;dsimp only[aF.then]at hR;obtain rfl:=hR;iterate 100 all_goals ((try conv=>whnf);try first|(with_reducible first|refine zY ?_|refine zN ?_|refine zT ?_|refine br (fun _=> ?_) (fun _=> ?_)|refine⟨rfl,?_⟩)|(refine cg.call rfl ?_)|(refine cf.call rfl ?_)|(refine c2.call rfl ?_)|(refine bL.call mixed rfl ?_)|(refine cp.call rfl ?_)|(refine cw.bO rfl fun h=> ?_))
             exact aW (ai _ _)
            |false=>
             have kn:(aq l j3).k=1:=ef hk;have hlt:j3<l.length:=bS (l:=l) (k:=1) (beq_iff_eq.2 kn) (by decide);have e1:IntKind.i64.wrap (((j3:Nat):Int)+1)=((j3+1:Nat):Int):=bN (by omega);rw[show (if(aq l j3).k=1 then kindOf (aq l j3).t else none)=some 1 by rw[if_pos kn];unfold kindOf;rw[lV,rH,vO];simp]at h;dsimp only[aF.then]at h;cases xP:cj (aq l) [110,111,116] (j3+1)with
             |true=>
              have lg:=bG (m:=m) (e:=0) hl xP;have:=aI xP;rw[xP]at h;rw[if_pos rfl]at h
              try dsimp only[aF.then]at h
              cases Cn:cj (aq l) [110,117,108,108] (j3+2)with
              |false=>
               have FK:=bh (m:=m) (e:=0) hl Cn;rw[show aA (aq l) [110,117,108,108] (j3+2)= .bad 240 (j3+2) by unfold aA;rw[Cn];rfl]at h
               try dsimp only[aF.then]at h
               obtain rfl:=h;dsimp only[aF.then]at hR;obtain rfl:=hR;iterate 142 all_goals ((try conv=>whnf);try first|rewrite [e1]|(with_reducible first|refine zY ?_|refine zN ?_|refine zT ?_|refine br (fun _=> ?_) (fun _=> ?_)|refine⟨rfl,?_⟩)|(refine cg.call rfl ?_)|(refine cf.call rfl ?_)|(refine c2.call rfl ?_)|(refine bL.call mixed rfl ?_)|(refine cp.call rfl ?_)|(refine bA (by simp) rfl (by decide) rfl (by omega) (by omega) ?_)|(refine lg.call rfl ?_)|(refine dy FK rfl rfl rfl fun h=> ?_))
               exact aW (ai _ _)
              |true=>
               have FK:=aS (m:=m) (e:=0) hl Cn;have:=aI Cn;rw[show aA (aq l) [110,117,108,108] (j3+2)= .ok () (j3+3) by unfold aA;rw[Cn];rfl]at h
               try dsimp only[aF.then]at h
               try dsimp only[aF.then]at h
               cases Co:cj (aq l) [44] (j3+3)with
               |false=>
                have Jx:=bh (m:=m) (e:=0) hl Co;rw[show aA (aq l) [44] (j3+3)= .bad 240 (j3+3) by unfold aA;rw[Co];rfl]at h
                try dsimp only[aF.then]at h
                obtain rfl:=h;dsimp only[aF.then]at hR;obtain rfl:=hR;iterate 156 all_goals ((try conv=>whnf);try first|rewrite [e1]|(with_reducible first|refine zY ?_|refine zN ?_|refine zT ?_|refine br (fun _=> ?_) (fun _=> ?_)|refine⟨rfl,?_⟩)|(refine cg.call rfl ?_)|(refine cf.call rfl ?_)|(refine c2.call rfl ?_)|(refine bL.call mixed rfl ?_)|(refine cp.call rfl ?_)|(refine bA (by simp) rfl (by decide) rfl (by omega) (by omega) ?_)|(refine lg.call rfl ?_)|(refine aP FK rfl rfl rfl ?_)|(refine dy Jx rfl rfl rfl fun h=> ?_))
                exact aW (ai _ _)
               |true=>
                have Jx:=aS (m:=m) (e:=0) hl Co;have:=aI Co;rw[show aA (aq l) [44] (j3+3)= .ok () (j3+4) by unfold aA;rw[Co];rfl]at h
                try dsimp only[aF.then]at h
                iterate 200 all_goals ((try conv=>whnf);try first|rewrite [e1]|(with_reducible first|refine zY ?_|refine zN ?_|refine zT ?_|refine br (fun _=> ?_) (fun _=> ?_)|refine⟨rfl,?_⟩)|(refine cg.call rfl ?_)|(refine cf.call rfl ?_)|(refine c2.call rfl ?_)|(refine bL.call mixed rfl ?_)|(refine cp.call rfl ?_)|(refine bA (by simp) rfl (by decide) rfl (by omega) (by omega) ?_)|(refine lg.call rfl ?_)|(refine aP FK rfl rfl rfl ?_)|(refine aP Jx rfl rfl rfl ?_))
                refine⟨fun j=> !(Nat.beq j 0||Nat.beq j 1||Nat.beq j 3||Nat.beq j 8),_,_,aQ,.refl,?_⟩;iterate 14 all_goals ((try conv=>whnf);try first|(with_reducible first|refine zY ?_|refine zN ?_|refine zT ?_|refine br (fun _=> ?_) (fun _=> ?_)|refine⟨rfl,?_⟩)|(refine aN (eK rfl) ?_)|(refine aN (eX 10 xs (⟨n_,1,true⟩:fe)) ?_))
                have em:(xs++[(⟨n_,1,true⟩:fe)]).map jN=xs.map jN++[jN (⟨n_,1,true⟩:fe)]:=List.map_append;have el:(xs++[(⟨n_,1,true⟩:fe)]).length=xs.length+1:=by simp
                exact⟨.L false (g+1) (xs++[(⟨n_,1,true⟩:fe)]) f (j3+4) (by rw[el];omega) (by rw[el];omega) (by omega) h,Nat.lt_succ_self f,rfl,by dsimp only[xb.hp];rw[em,el]⟩
             |false=>
              have lg:=bU (m:=m) (e:=0) hl xP;rw[xP]at h;rw[if_neg (by decide)]at h
              try dsimp only[aF.then]at h
              try dsimp only[aF.then]at h
              cases xN:cj (aq l) [44] (j3+1)with
              |false=>
               have Ao:=bh (m:=m) (e:=0) hl xN;rw[show aA (aq l) [44] (j3+1)= .bad 240 (j3+1) by unfold aA;rw[xN];rfl]at h
               try dsimp only[aF.then]at h
               obtain rfl:=h;dsimp only[aF.then]at hR;obtain rfl:=hR;iterate 142 all_goals ((try conv=>whnf);try first|rewrite [e1]|(with_reducible first|refine zY ?_|refine zN ?_|refine zT ?_|refine br (fun _=> ?_) (fun _=> ?_)|refine⟨rfl,?_⟩)|(refine cg.call rfl ?_)|(refine cf.call rfl ?_)|(refine c2.call rfl ?_)|(refine bL.call mixed rfl ?_)|(refine cp.call rfl ?_)|(refine bA (by simp) rfl (by decide) rfl (by omega) (by omega) ?_)|(refine lg.call rfl ?_)|(refine dy Ao rfl rfl rfl fun h=> ?_))
               exact aW (ai _ _)
              |true=>
               have Ao:=aS (m:=m) (e:=0) hl xN;have:=aI xN;rw[show aA (aq l) [44] (j3+1)= .ok () (j3+2) by unfold aA;rw[xN];rfl]at h
               try dsimp only[aF.then]at h
               iterate 186 all_goals ((try conv=>whnf);try first|rewrite [e1]|(with_reducible first|refine zY ?_|refine zN ?_|refine zT ?_|refine br (fun _=> ?_) (fun _=> ?_)|refine⟨rfl,?_⟩)|(refine cg.call rfl ?_)|(refine cf.call rfl ?_)|(refine c2.call rfl ?_)|(refine bL.call mixed rfl ?_)|(refine cp.call rfl ?_)|(refine bA (by simp) rfl (by decide) rfl (by omega) (by omega) ?_)|(refine lg.call rfl ?_)|(refine aP Ao rfl rfl rfl ?_))
               refine⟨fun j=> !(Nat.beq j 0||Nat.beq j 1||Nat.beq j 3||Nat.beq j 8),_,_,aQ,.refl,?_⟩;iterate 14 all_goals ((try conv=>whnf);try first|(with_reducible first|refine zY ?_|refine zN ?_|refine zT ?_|refine br (fun _=> ?_) (fun _=> ?_)|refine⟨rfl,?_⟩)|(refine aN (eK rfl) ?_)|(refine aN (eX 10 xs (⟨n_,1,false⟩:fe)) ?_))
               have em:(xs++[(⟨n_,1,false⟩:fe)]).map jN=xs.map jN++[jN (⟨n_,1,false⟩:fe)]:=List.map_append;have el:(xs++[(⟨n_,1,false⟩:fe)]).length=xs.length+1:=by simp
               exact⟨.L false (g+1) (xs++[(⟨n_,1,false⟩:fe)]) f (j3+2) (by rw[el];omega) (by rw[el];omega) (by omega) h,Nat.lt_succ_self f,rfl,by dsimp only[xb.hp];rw[em,el]⟩
           |false=>
            rw[show (if(aq l j3).k=1 then kindOf (aq l j3).t else none)=none by unfold kindOf;rw[lV,rH,vO];simp]at h;dsimp only[aF.then]at h;have cw:=bM (l:=l) (m:=m) (e:=0) 240 j3;obtain rfl:=h;dsimp only[aF.then]at hR;obtain rfl:=hR;iterate 100 all_goals ((try conv=>whnf);try first|(with_reducible first|refine zY ?_|refine zN ?_|refine zT ?_|refine br (fun _=> ?_) (fun _=> ?_)|refine⟨rfl,?_⟩)|(refine cg.call rfl ?_)|(refine cf.call rfl ?_)|(refine c2.call rfl ?_)|(refine bL.call mixed rfl ?_)|(refine cp.call rfl ?_)|(refine cw.bO rfl fun h=> ?_))
            exact aW (ai _ _)
     ·have hg:Nat.beq g g=true:=Nat.beq_refl g
      have hb:decide ((0:Int)<((xs.length:Nat):Int))=true:=decide_eq_true (by omega);cases hp:cj (aq l) [112,114,105,109,97,114,121] i with
      |true=>
       have cg:=bG (m:=m) (e:=0) hl hp;have:=aI hp;have h1:aF.ok xs (i+1)=r:=by rw[<- h];cases f<;>simp[gY,hp,h0]
       obtain rfl:=h1;dsimp only[aF.then]at hR;unfold nI at hR;cases h1:cj (aq l) [107,101,121] (i+1)with
       |false=>
        have c2:=bh (m:=m) (e:=0) hl h1;rw[show aA (aq l) [107,101,121] (i+1)= .bad 240 (i+1) by unfold aA;rw[h1];rfl]at hR
        try dsimp only[aF.then]at hR
        obtain rfl:=hR;iterate 44 all_goals ((try conv=>whnf);try first|(with_reducible first|refine zY ?_|refine zN ?_|refine zT ?_|refine br (fun _=> ?_) (fun _=> ?_)|refine⟨rfl,?_⟩)|(refine cg.call rfl ?_)|(refine dy c2 rfl rfl rfl fun h=> ?_))
        exact aW (ai _ _)
       |true=>
        have c2:=aS (m:=m) (e:=0) hl h1;have:=aI h1;rw[show aA (aq l) [107,101,121] (i+1)= .ok () (i+2) by unfold aA;rw[h1];rfl]at hR
        try dsimp only[aF.then]at hR
        have c4:=nJ (m:=m) (e:=0) hl 4 (by decide) (i+2) (by omega);cases h3:iB (aq l) l.length (dP aH) 4 (i+2)with
        |bad er j=>
         rw[h3]at c4;dsimp only[aF.then,lA]at c4;rw[h3]at hR
         try dsimp only[aF.then]at hR
         obtain rfl:=hR;iterate 58 all_goals ((try conv=>whnf);try first|(with_reducible first|refine zY ?_|refine zN ?_|refine zT ?_|refine br (fun _=> ?_) (fun _=> ?_)|refine⟨rfl,?_⟩)|(refine cg.call rfl ?_)|(refine aP c2 rfl rfl rfl ?_)|(refine c4.bO rfl fun h=> ?_))
         exact aW (ai _ _)
        |ok key j5=>
         rw[h3]at c4;have:=(nK _ _ _ (by omega) h3).2;dsimp only[aF.then,lA]at c4;rw[h3]at hR
         try dsimp only[aF.then]at hR
         cases h6:cj (aq l) [41] j5 with
         |false=>
          have c7:=bh (m:=m) (e:=0) hl h6;rw[show aA (aq l) [41] j5= .bad 240 j5 by unfold aA;rw[h6];rfl]at hR
          try dsimp only[aF.then]at hR
          obtain rfl:=hR;iterate 72 all_goals ((try conv=>whnf);try first|(with_reducible first|refine zY ?_|refine zN ?_|refine zT ?_|refine br (fun _=> ?_) (fun _=> ?_)|refine⟨rfl,?_⟩)|(refine cg.call rfl ?_)|(refine aP c2 rfl rfl rfl ?_)|(refine c4.call rfl ?_)|(refine dy c7 rfl rfl rfl fun h=> ?_))
          exact aW (ai _ _)
         |true=>
          have c7:=aS (m:=m) (e:=0) hl h6;have:=aI h6;rw[show aA (aq l) [41] j5= .ok () (j5+1) by unfold aA;rw[h6];rfl]at hR
          try dsimp only[aF.then]at hR
          obtain rfl:=hR;iterate 86 all_goals ((try conv=>whnf);try first|(with_reducible first|refine zY ?_|refine zN ?_|refine zT ?_|refine br (fun _=> ?_) (fun _=> ?_)|refine⟨rfl,?_⟩)|(refine cg.call rfl ?_)|(refine aP c2 rfl rfl rfl ?_)|(refine c4.call rfl ?_)|(refine aP c7 rfl rfl rfl ?_))
          exact bT (dX {kind:=5,name:=n,gX:=xs,key:=key} (qm (vs:=xs.map jN) rfl (by simp) (fun v hv=>by obtain⟨x,_,rfl⟩:=List.mem_map.1 hv;exact FG x)) (.lit (bx _ _)) .nil .nil .nil .nil .nil .nil .nil .nil) rfl
      |false=>
       have cg:=bU (m:=m) (e:=0) hl hp;cases f with
       |zero=>
        rw[gY,if_neg (by rw[hp];decide)]at h;have cf:=sI (l:=l) (m:=m) (e:=0) (n:=xs.length) (most:=12) (by omega) i;obtain rfl:=h;dsimp only[aF.then]at hR;obtain rfl:=hR;iterate 44 all_goals ((try conv=>whnf);try first|(with_reducible first|refine zY ?_|refine zN ?_|refine zT ?_|refine br (fun _=> ?_) (fun _=> ?_)|refine⟨rfl,?_⟩)|(refine cg.call rfl ?_)|(refine cf.bO rfl fun h=> ?_))
        exact aW (ai _ _)
       |succ f=>
        rw[gY,if_neg (by rw[hp];simp)]at h;have cf:=nG (l:=l) (m:=m) (e:=0) (n:=xs.length) (most:=12) (by omega) i;unfold vm at h;cases h1:de (aq l) (dP aH) i with
        |bad er j=>
         have c2:=cM (m:=m) (e:=0) hl h1;rw[h1]at h
         try dsimp only[aF.then]at h
         obtain rfl:=h;dsimp only[aF.then]at hR;obtain rfl:=hR;iterate 58 all_goals ((try conv=>whnf);try first|(with_reducible first|refine zY ?_|refine zN ?_|refine zT ?_|refine br (fun _=> ?_) (fun _=> ?_)|refine⟨rfl,?_⟩)|(refine cg.call rfl ?_)|(refine cf.call rfl ?_)|(refine c2.bO rfl fun h=> ?_))
         exact aW (ai _ _)
        |ok n_ j3=>
         have c2:=dz (m:=m) (e:=0) hl h1;have:=(cT _ _ _ (by omega) h1).2;rw[h1]at h
         try dsimp only[aF.then]at h
         have cp:=eS (l:=l) (m:=m) (e:=0) j3;cases lV:((l.getD j3 aC).1.t==[105,110,116])with
         |true=>
          cases hk:((l.getD j3 aC).1.k !=1)with
          |true=>
           rw[show (if(aq l j3).k=1 then kindOf (aq l j3).t else none)=none from if_neg (bne_iff_ne.1 hk)]at h;dsimp only[aF.then]at h;have cw:=bM (l:=l) (m:=m) (e:=0) 240 j3;obtain rfl:=h;dsimp only[aF.then]at hR;obtain rfl:=hR;iterate 100 all_goals ((try conv=>whnf);try first|(with_reducible first|refine zY ?_|refine zN ?_|refine zT ?_|refine br (fun _=> ?_) (fun _=> ?_)|refine⟨rfl,?_⟩)|(refine cg.call rfl ?_)|(refine cf.call rfl ?_)|(refine c2.call rfl ?_)|(refine bL.call mixed rfl ?_)|(refine cp.call rfl ?_)|(refine cw.bO rfl fun h=> ?_))
           exact aW (ai _ _)
          |false=>
           have kn:(aq l j3).k=1:=ef hk;have hlt:j3<l.length:=bS (l:=l) (k:=1) (beq_iff_eq.2 kn) (by decide);have e1:IntKind.i64.wrap (((j3:Nat):Int)+1)=((j3+1:Nat):Int):=bN (by omega);rw[show (if(aq l j3).k=1 then kindOf (aq l j3).t else none)=some 2 by rw[if_pos kn];unfold kindOf;rw[lV];simp]at h;dsimp only[aF.then]at h;cases h4:cj (aq l) [110,111,116] (j3+1)with
           |true=>
            have c5:=bG (m:=m) (e:=0) hl h4;have:=aI h4;rw[h4]at h;rw[if_pos rfl]at h
            try dsimp only[aF.then]at h
            cases h6:cj (aq l) [110,117,108,108] (j3+2)with
            |false=>
             have c7:=bh (m:=m) (e:=0) hl h6;rw[show aA (aq l) [110,117,108,108] (j3+2)= .bad 240 (j3+2) by unfold aA;rw[h6];rfl]at h
             try dsimp only[aF.then]at h
             obtain rfl:=h;dsimp only[aF.then]at hR;obtain rfl:=hR;iterate 142 all_goals ((try conv=>whnf);try first|rewrite [e1]|(with_reducible first|refine zY ?_|refine zN ?_|refine zT ?_|refine br (fun _=> ?_) (fun _=> ?_)|refine⟨rfl,?_⟩)|(refine cg.call rfl ?_)|(refine cf.call rfl ?_)|(refine c2.call rfl ?_)|(refine bL.call mixed rfl ?_)|(refine cp.call rfl ?_)|(refine bA (by simp) rfl (by decide) rfl (by omega) (by omega) ?_)|(refine c5.call rfl ?_)|(refine dy c7 rfl rfl rfl fun h=> ?_))
             exact aW (ai _ _)
            |true=>
             have c7:=aS (m:=m) (e:=0) hl h6;have:=aI h6;rw[show aA (aq l) [110,117,108,108] (j3+2)= .ok () (j3+3) by unfold aA;rw[h6];rfl]at h
             try dsimp only[aF.then]at h
             try dsimp only[aF.then]at h
             cases h8:cj (aq l) [44] (j3+3)with
             |false=>
              have c9:=bh (m:=m) (e:=0) hl h8;rw[show aA (aq l) [44] (j3+3)= .bad 240 (j3+3) by unfold aA;rw[h8];rfl]at h
              try dsimp only[aF.then]at h
              obtain rfl:=h;dsimp only[aF.then]at hR;obtain rfl:=hR;iterate 156 all_goals ((try conv=>whnf);try first|rewrite [e1]|(with_reducible first|refine zY ?_|refine zN ?_|refine zT ?_|refine br (fun _=> ?_) (fun _=> ?_)|refine⟨rfl,?_⟩)|(refine cg.call rfl ?_)|(refine cf.call rfl ?_)|(refine c2.call rfl ?_)|(refine bL.call mixed rfl ?_)|(refine cp.call rfl ?_)|(refine bA (by simp) rfl (by decide) rfl (by omega) (by omega) ?_)|(refine c5.call rfl ?_)|(refine aP c7 rfl rfl rfl ?_)|(refine dy c9 rfl rfl rfl fun h=> ?_))
              exact aW (ai _ _)
             |true=>
              have c9:=aS (m:=m) (e:=0) hl h8;have:=aI h8;rw[show aA (aq l) [44] (j3+3)= .ok () (j3+4) by unfold aA;rw[h8];rfl]at h
              try dsimp only[aF.then]at h
              iterate 200 all_goals ((try conv=>whnf);try first|rewrite [e1]|(with_reducible first|refine zY ?_|refine zN ?_|refine zT ?_|refine br (fun _=> ?_) (fun _=> ?_)|refine⟨rfl,?_⟩)|(refine cg.call rfl ?_)|(refine cf.call rfl ?_)|(refine c2.call rfl ?_)|(refine bL.call mixed rfl ?_)|(refine cp.call rfl ?_)|(refine bA (by simp) rfl (by decide) rfl (by omega) (by omega) ?_)|(refine c5.call rfl ?_)|(refine aP c7 rfl rfl rfl ?_)|(refine aP c9 rfl rfl rfl ?_))
              refine⟨fun j=> !(Nat.beq j 0||Nat.beq j 1||Nat.beq j 3||Nat.beq j 9),_,_,aQ,.refl,?_⟩;iterate 14 all_goals ((try conv=>whnf);try first|(with_reducible first|refine zY ?_|refine zN ?_|refine zT ?_|refine br (fun _=> ?_) (fun _=> ?_)|refine⟨rfl,?_⟩)|(refine aN (eK rfl) ?_)|(refine aN (eX 10 xs (⟨n_,2,true⟩:fe)) ?_))
              have em:(xs++[(⟨n_,2,true⟩:fe)]).map jN=xs.map jN++[jN (⟨n_,2,true⟩:fe)]:=List.map_append;have el:(xs++[(⟨n_,2,true⟩:fe)]).length=xs.length+1:=by simp
              exact⟨.L true (g+1) (xs++[(⟨n_,2,true⟩:fe)]) f (j3+4) (by rw[el];omega) (by rw[el];omega) (by omega) h,Nat.lt_succ_self f,rfl,by dsimp only[xb.hp];rw[em,el]⟩
           |false=>
            have c5:=bU (m:=m) (e:=0) hl h4;rw[h4]at h;rw[if_neg (by decide)]at h
            try dsimp only[aF.then]at h
            try dsimp only[aF.then]at h
            cases h10:cj (aq l) [44] (j3+1)with
            |false=>
             have mh:=bh (m:=m) (e:=0) hl h10;rw[show aA (aq l) [44] (j3+1)= .bad 240 (j3+1) by unfold aA;rw[h10];rfl]at h
             try dsimp only[aF.then]at h
             obtain rfl:=h;dsimp only[aF.then]at hR;obtain rfl:=hR;iterate 142 all_goals ((try conv=>whnf);try first|rewrite [e1]|(with_reducible first|refine zY ?_|refine zN ?_|refine zT ?_|refine br (fun _=> ?_) (fun _=> ?_)|refine⟨rfl,?_⟩)|(refine cg.call rfl ?_)|(refine cf.call rfl ?_)|(refine c2.call rfl ?_)|(refine bL.call mixed rfl ?_)|(refine cp.call rfl ?_)|(refine bA (by simp) rfl (by decide) rfl (by omega) (by omega) ?_)|(refine c5.call rfl ?_)|(refine dy mh rfl rfl rfl fun h=> ?_))
             exact aW (ai _ _)
            |true=>
             have mh:=aS (m:=m) (e:=0) hl h10;have:=aI h10;rw[show aA (aq l) [44] (j3+1)= .ok () (j3+2) by unfold aA;rw[h10];rfl]at h
             try dsimp only[aF.then]at h
             iterate 186 all_goals ((try conv=>whnf);try first|rewrite [e1]|(with_reducible first|refine zY ?_|refine zN ?_|refine zT ?_|refine br (fun _=> ?_) (fun _=> ?_)|refine⟨rfl,?_⟩)|(refine cg.call rfl ?_)|(refine cf.call rfl ?_)|(refine c2.call rfl ?_)|(refine bL.call mixed rfl ?_)|(refine cp.call rfl ?_)|(refine bA (by simp) rfl (by decide) rfl (by omega) (by omega) ?_)|(refine c5.call rfl ?_)|(refine aP mh rfl rfl rfl ?_))
             refine⟨fun j=> !(Nat.beq j 0||Nat.beq j 1||Nat.beq j 3||Nat.beq j 9),_,_,aQ,.refl,?_⟩;iterate 14 all_goals ((try conv=>whnf);try first|(with_reducible first|refine zY ?_|refine zN ?_|refine zT ?_|refine br (fun _=> ?_) (fun _=> ?_)|refine⟨rfl,?_⟩)|(refine aN (eK rfl) ?_)|(refine aN (eX 10 xs (⟨n_,2,false⟩:fe)) ?_))
             have em:(xs++[(⟨n_,2,false⟩:fe)]).map jN=xs.map jN++[jN (⟨n_,2,false⟩:fe)]:=List.map_append;have el:(xs++[(⟨n_,2,false⟩:fe)]).length=xs.length+1:=by simp
             exact⟨.L true (g+1) (xs++[(⟨n_,2,false⟩:fe)]) f (j3+2) (by rw[el];omega) (by rw[el];omega) (by omega) h,Nat.lt_succ_self f,rfl,by dsimp only[xb.hp];rw[em,el]⟩
         |false=>
          cases rH:((l.getD j3 aC).1.t==[116,101,120,116])with
          |true=>
           cases hk:((l.getD j3 aC).1.k !=1)with
           |true=>
            rw[show (if(aq l j3).k=1 then kindOf (aq l j3).t else none)=none from if_neg (bne_iff_ne.1 hk)]at h;dsimp only[aF.then]at h;have cw:=bM (l:=l) (m:=m) (e:=0) 240 j3;obtain rfl:=h;dsimp only[aF.then]at hR;obtain rfl:=hR;iterate 100 all_goals ((try conv=>whnf);try first|(with_reducible first|refine zY ?_|refine zN ?_|refine zT ?_|refine br (fun _=> ?_) (fun _=> ?_)|refine⟨rfl,?_⟩)|(refine cg.call rfl ?_)|(refine cf.call rfl ?_)|(refine c2.call rfl ?_)|(refine bL.call mixed rfl ?_)|(refine cp.call rfl ?_)|(refine cw.bO rfl fun h=> ?_))
            exact aW (ai _ _)
           |false=>
            have kn:(aq l j3).k=1:=ef hk;have hlt:j3<l.length:=bS (l:=l) (k:=1) (beq_iff_eq.2 kn) (by decide);have e1:IntKind.i64.wrap (((j3:Nat):Int)+1)=((j3+1:Nat):Int):=bN (by omega);rw[show (if(aq l j3).k=1 then kindOf (aq l j3).t else none)=some 3 by rw[if_pos kn];unfold kindOf;rw[lV,rH];simp]at h;dsimp only[aF.then]at h;cases h12:cj (aq l) [110,111,116] (j3+1)with
            |true=>
             have iV:=bG (m:=m) (e:=0) hl h12;have:=aI h12;rw[h12]at h;rw[if_pos rfl]at h
             try dsimp only[aF.then]at h
             cases xO:cj (aq l) [110,117,108,108] (j3+2)with
             |false=>
              have mU:=bh (m:=m) (e:=0) hl xO;rw[show aA (aq l) [110,117,108,108] (j3+2)= .bad 240 (j3+2) by unfold aA;rw[xO];rfl]at h
              try dsimp only[aF.then]at h
              obtain rfl:=h;dsimp only[aF.then]at hR;obtain rfl:=hR;iterate 142 all_goals ((try conv=>whnf);try first|rewrite [e1]|(with_reducible first|refine zY ?_|refine zN ?_|refine zT ?_|refine br (fun _=> ?_) (fun _=> ?_)|refine⟨rfl,?_⟩)|(refine cg.call rfl ?_)|(refine cf.call rfl ?_)|(refine c2.call rfl ?_)|(refine bL.call mixed rfl ?_)|(refine cp.call rfl ?_)|(refine bA (by simp) rfl (by decide) rfl (by omega) (by omega) ?_)|(refine iV.call rfl ?_)|(refine dy mU rfl rfl rfl fun h=> ?_))
              exact aW (ai _ _)
             |true=>
              have mU:=aS (m:=m) (e:=0) hl xO;have:=aI xO;rw[show aA (aq l) [110,117,108,108] (j3+2)= .ok () (j3+3) by unfold aA;rw[xO];rfl]at h
              try dsimp only[aF.then]at h
              try dsimp only[aF.then]at h
              cases tV:cj (aq l) [44] (j3+3)with
              |false=>
               have hG:=bh (m:=m) (e:=0) hl tV;rw[show aA (aq l) [44] (j3+3)= .bad 240 (j3+3) by unfold aA;rw[tV];rfl]at h
               try dsimp only[aF.then]at h
               obtain rfl:=h;dsimp only[aF.then]at hR;obtain rfl:=hR;iterate 156 all_goals ((try conv=>whnf);try first|rewrite [e1]|(with_reducible first|refine zY ?_|refine zN ?_|refine zT ?_|refine br (fun _=> ?_) (fun _=> ?_)|refine⟨rfl,?_⟩)|(refine cg.call rfl ?_)|(refine cf.call rfl ?_)|(refine c2.call rfl ?_)|(refine bL.call mixed rfl ?_)|(refine cp.call rfl ?_)|(refine bA (by simp) rfl (by decide) rfl (by omega) (by omega) ?_)|(refine iV.call rfl ?_)|(refine aP mU rfl rfl rfl ?_)|(refine dy hG rfl rfl rfl fun h=> ?_))
               exact aW (ai _ _)
              |true=>
               have hG:=aS (m:=m) (e:=0) hl tV;have:=aI tV;rw[show aA (aq l) [44] (j3+3)= .ok () (j3+4) by unfold aA;rw[tV];rfl]at h
               try dsimp only[aF.then]at h
               iterate 200 all_goals ((try conv=>whnf);try first|rewrite [e1]|(with_reducible first|refine zY ?_|refine zN ?_|refine zT ?_|refine br (fun _=> ?_) (fun _=> ?_)|refine⟨rfl,?_⟩)|(refine cg.call rfl ?_)|(refine cf.call rfl ?_)|(refine c2.call rfl ?_)|(refine bL.call mixed rfl ?_)|(refine cp.call rfl ?_)|(refine bA (by simp) rfl (by decide) rfl (by omega) (by omega) ?_)|(refine iV.call rfl ?_)|(refine aP mU rfl rfl rfl ?_)|(refine aP hG rfl rfl rfl ?_))
               refine⟨fun j=> !(Nat.beq j 0||Nat.beq j 1||Nat.beq j 3||Nat.beq j 9),_,_,aQ,.refl,?_⟩;iterate 14 all_goals ((try conv=>whnf);try first|(with_reducible first|refine zY ?_|refine zN ?_|refine zT ?_|refine br (fun _=> ?_) (fun _=> ?_)|refine⟨rfl,?_⟩)|(refine aN (eK rfl) ?_)|(refine aN (eX 10 xs (⟨n_,3,true⟩:fe)) ?_))
               have em:(xs++[(⟨n_,3,true⟩:fe)]).map jN=xs.map jN++[jN (⟨n_,3,true⟩:fe)]:=List.map_append;have el:(xs++[(⟨n_,3,true⟩:fe)]).length=xs.length+1:=by simp
               exact⟨.L true (g+1) (xs++[(⟨n_,3,true⟩:fe)]) f (j3+4) (by rw[el];omega) (by rw[el];omega) (by omega) h,Nat.lt_succ_self f,rfl,by dsimp only[xb.hp];rw[em,el]⟩
            |false=>
             have iV:=bU (m:=m) (e:=0) hl h12;rw[h12]at h;rw[if_neg (by decide)]at h
             try dsimp only[aF.then]at h
             try dsimp only[aF.then]at h
             cases rI:cj (aq l) [44] (j3+1)with
             |false=>
              have rJ:=bh (m:=m) (e:=0) hl rI;rw[show aA (aq l) [44] (j3+1)= .bad 240 (j3+1) by unfold aA;rw[rI];rfl]at h
              try dsimp only[aF.then]at h
              obtain rfl:=h;dsimp only[aF.then]at hR;obtain rfl:=hR;iterate 142 all_goals ((try conv=>whnf);try first|rewrite [e1]|(with_reducible first|refine zY ?_|refine zN ?_|refine zT ?_|refine br (fun _=> ?_) (fun _=> ?_)|refine⟨rfl,?_⟩)|(refine cg.call rfl ?_)|(refine cf.call rfl ?_)|(refine c2.call rfl ?_)|(refine bL.call mixed rfl ?_)|(refine cp.call rfl ?_)|(refine bA (by simp) rfl (by decide) rfl (by omega) (by omega) ?_)|(refine iV.call rfl ?_)|(refine dy rJ rfl rfl rfl fun h=> ?_))
              exact aW (ai _ _)
             |true=>
              have rJ:=aS (m:=m) (e:=0) hl rI;have:=aI rI;rw[show aA (aq l) [44] (j3+1)= .ok () (j3+2) by unfold aA;rw[rI];rfl]at h
              try dsimp only[aF.then]at h
              iterate 186 all_goals ((try conv=>whnf);try first|rewrite [e1]|(with_reducible first|refine zY ?_|refine zN ?_|refine zT ?_|refine br (fun _=> ?_) (fun _=> ?_)|refine⟨rfl,?_⟩)|(refine cg.call rfl ?_)|(refine cf.call rfl ?_)|(refine c2.call rfl ?_)|(refine bL.call mixed rfl ?_)|(refine cp.call rfl ?_)|(refine bA (by simp) rfl (by decide) rfl (by omega) (by omega) ?_)|(refine iV.call rfl ?_)|(refine aP rJ rfl rfl rfl ?_))
              refine⟨fun j=> !(Nat.beq j 0||Nat.beq j 1||Nat.beq j 3||Nat.beq j 9),_,_,aQ,.refl,?_⟩;iterate 14 all_goals ((try conv=>whnf);try first|(with_reducible first|refine zY ?_|refine zN ?_|refine zT ?_|refine br (fun _=> ?_) (fun _=> ?_)|refine⟨rfl,?_⟩)|(refine aN (eK rfl) ?_)|(refine aN (eX 10 xs (⟨n_,3,false⟩:fe)) ?_))
              have em:(xs++[(⟨n_,3,false⟩:fe)]).map jN=xs.map jN++[jN (⟨n_,3,false⟩:fe)]:=List.map_append;have el:(xs++[(⟨n_,3,false⟩:fe)]).length=xs.length+1:=by simp
              exact⟨.L true (g+1) (xs++[(⟨n_,3,false⟩:fe)]) f (j3+2) (by rw[el];omega) (by rw[el];omega) (by omega) h,Nat.lt_succ_self f,rfl,by dsimp only[xb.hp];rw[em,el]⟩
          |false=>
           cases vO:((l.getD j3 aC).1.t==[98,111,111,108])with
           |true=>
            cases hk:((l.getD j3 aC).1.k !=1)with
            |true=>
             rw[show (if(aq l j3).k=1 then kindOf (aq l j3).t else none)=none from if_neg (bne_iff_ne.1 hk)]at h;dsimp only[aF.then]at h;have cw:=bM (l:=l) (m:=m) (e:=0) 240 j3;obtain rfl:=h;dsimp only[aF.then]at hR;obtain rfl:=hR;iterate 100 all_goals ((try conv=>whnf);try first|(with_reducible first|refine zY ?_|refine zN ?_|refine zT ?_|refine br (fun _=> ?_) (fun _=> ?_)|refine⟨rfl,?_⟩)|(refine cg.call rfl ?_)|(refine cf.call rfl ?_)|(refine c2.call rfl ?_)|(refine bL.call mixed rfl ?_)|(refine cp.call rfl ?_)|(refine cw.bO rfl fun h=> ?_))
             exact aW (ai _ _)
            |false=>
             have kn:(aq l j3).k=1:=ef hk;have hlt:j3<l.length:=bS (l:=l) (k:=1) (beq_iff_eq.2 kn) (by decide);have e1:IntKind.i64.wrap (((j3:Nat):Int)+1)=((j3+1:Nat):Int):=bN (by omega);rw[show (if(aq l j3).k=1 then kindOf (aq l j3).t else none)=some 1 by rw[if_pos kn];unfold kindOf;rw[lV,rH,vO];simp]at h;dsimp only[aF.then]at h;cases xP:cj (aq l) [110,111,116] (j3+1)with
             |true=>
              have lg:=bG (m:=m) (e:=0) hl xP;have:=aI xP;rw[xP]at h;rw[if_pos rfl]at h
              try dsimp only[aF.then]at h
              cases Cn:cj (aq l) [110,117,108,108] (j3+2)with
              |false=>
               have FK:=bh (m:=m) (e:=0) hl Cn;rw[show aA (aq l) [110,117,108,108] (j3+2)= .bad 240 (j3+2) by unfold aA;rw[Cn];rfl]at h
               try dsimp only[aF.then]at h
               obtain rfl:=h;dsimp only[aF.then]at hR;obtain rfl:=hR;iterate 142 all_goals ((try conv=>whnf);try first|rewrite [e1]|(with_reducible first|refine zY ?_|refine zN ?_|refine zT ?_|refine br (fun _=> ?_) (fun _=> ?_)|refine⟨rfl,?_⟩)|(refine cg.call rfl ?_)|(refine cf.call rfl ?_)|(refine c2.call rfl ?_)|(refine bL.call mixed rfl ?_)|(refine cp.call rfl ?_)|(refine bA (by simp) rfl (by decide) rfl (by omega) (by omega) ?_)|(refine lg.call rfl ?_)|(refine dy FK rfl rfl rfl fun h=> ?_))
               exact aW (ai _ _)
              |true=>
               have FK:=aS (m:=m) (e:=0) hl Cn;have:=aI Cn;rw[show aA (aq l) [110,117,108,108] (j3+2)= .ok () (j3+3) by unfold aA;rw[Cn];rfl]at h
               try dsimp only[aF.then]at h
               try dsimp only[aF.then]at h
               cases Co:cj (aq l) [44] (j3+3)with
               |false=>
                have Jx:=bh (m:=m) (e:=0) hl Co;rw[show aA (aq l) [44] (j3+3)= .bad 240 (j3+3) by unfold aA;rw[Co];rfl]at h
                try dsimp only[aF.then]at h
                obtain rfl:=h;dsimp only[aF.then]at hR;obtain rfl:=hR;iterate 156 all_goals ((try conv=>whnf);try first|rewrite [e1]|(with_reducible first|refine zY ?_|refine zN ?_|refine zT ?_|refine br (fun _=> ?_) (fun _=> ?_)|refine⟨rfl,?_⟩)|(refine cg.call rfl ?_)|(refine cf.call rfl ?_)|(refine c2.call rfl ?_)|(refine bL.call mixed rfl ?_)|(refine cp.call rfl ?_)|(refine bA (by simp) rfl (by decide) rfl (by omega) (by omega) ?_)|(refine lg.call rfl ?_)|(refine aP FK rfl rfl rfl ?_)|(refine dy Jx rfl rfl rfl fun h=> ?_))
                exact aW (ai _ _)
               |true=>
                have Jx:=aS (m:=m) (e:=0) hl Co;have:=aI Co;rw[show aA (aq l) [44] (j3+3)= .ok () (j3+4) by unfold aA;rw[Co];rfl]at h
                try dsimp only[aF.then]at h
                iterate 200 all_goals ((try conv=>whnf);try first|rewrite [e1]|(with_reducible first|refine zY ?_|refine zN ?_|refine zT ?_|refine br (fun _=> ?_) (fun _=> ?_)|refine⟨rfl,?_⟩)|(refine cg.call rfl ?_)|(refine cf.call rfl ?_)|(refine c2.call rfl ?_)|(refine bL.call mixed rfl ?_)|(refine cp.call rfl ?_)|(refine bA (by simp) rfl (by decide) rfl (by omega) (by omega) ?_)|(refine lg.call rfl ?_)|(refine aP FK rfl rfl rfl ?_)|(refine aP Jx rfl rfl rfl ?_))
                refine⟨fun j=> !(Nat.beq j 0||Nat.beq j 1||Nat.beq j 3||Nat.beq j 9),_,_,aQ,.refl,?_⟩;iterate 14 all_goals ((try conv=>whnf);try first|(with_reducible first|refine zY ?_|refine zN ?_|refine zT ?_|refine br (fun _=> ?_) (fun _=> ?_)|refine⟨rfl,?_⟩)|(refine aN (eK rfl) ?_)|(refine aN (eX 10 xs (⟨n_,1,true⟩:fe)) ?_))
                have em:(xs++[(⟨n_,1,true⟩:fe)]).map jN=xs.map jN++[jN (⟨n_,1,true⟩:fe)]:=List.map_append;have el:(xs++[(⟨n_,1,true⟩:fe)]).length=xs.length+1:=by simp
                exact⟨.L true (g+1) (xs++[(⟨n_,1,true⟩:fe)]) f (j3+4) (by rw[el];omega) (by rw[el];omega) (by omega) h,Nat.lt_succ_self f,rfl,by dsimp only[xb.hp];rw[em,el]⟩
             |false=>
              have lg:=bU (m:=m) (e:=0) hl xP;rw[xP]at h;rw[if_neg (by decide)]at h
              try dsimp only[aF.then]at h
              try dsimp only[aF.then]at h
              cases xN:cj (aq l) [44] (j3+1)with
              |false=>
               have Ao:=bh (m:=m) (e:=0) hl xN;rw[show aA (aq l) [44] (j3+1)= .bad 240 (j3+1) by unfold aA;rw[xN];rfl]at h
               try dsimp only[aF.then]at h
               obtain rfl:=h;dsimp only[aF.then]at hR;obtain rfl:=hR;iterate 142 all_goals ((try conv=>whnf);try first|rewrite [e1]|(with_reducible first|refine zY ?_|refine zN ?_|refine zT ?_|refine br (fun _=> ?_) (fun _=> ?_)|refine⟨rfl,?_⟩)|(refine cg.call rfl ?_)|(refine cf.call rfl ?_)|(refine c2.call rfl ?_)|(refine bL.call mixed rfl ?_)|(refine cp.call rfl ?_)|(refine bA (by simp) rfl (by decide) rfl (by omega) (by omega) ?_)|(refine lg.call rfl ?_)|(refine dy Ao rfl rfl rfl fun h=> ?_))
               exact aW (ai _ _)
              |true=>
               have Ao:=aS (m:=m) (e:=0) hl xN;have:=aI xN;rw[show aA (aq l) [44] (j3+1)= .ok () (j3+2) by unfold aA;rw[xN];rfl]at h
               try dsimp only[aF.then]at h
               iterate 186 all_goals ((try conv=>whnf);try first|rewrite [e1]|(with_reducible first|refine zY ?_|refine zN ?_|refine zT ?_|refine br (fun _=> ?_) (fun _=> ?_)|refine⟨rfl,?_⟩)|(refine cg.call rfl ?_)|(refine cf.call rfl ?_)|(refine c2.call rfl ?_)|(refine bL.call mixed rfl ?_)|(refine cp.call rfl ?_)|(refine bA (by simp) rfl (by decide) rfl (by omega) (by omega) ?_)|(refine lg.call rfl ?_)|(refine aP Ao rfl rfl rfl ?_))
               refine⟨fun j=> !(Nat.beq j 0||Nat.beq j 1||Nat.beq j 3||Nat.beq j 9),_,_,aQ,.refl,?_⟩;iterate 14 all_goals ((try conv=>whnf);try first|(with_reducible first|refine zY ?_|refine zN ?_|refine zT ?_|refine br (fun _=> ?_) (fun _=> ?_)|refine⟨rfl,?_⟩)|(refine aN (eK rfl) ?_)|(refine aN (eX 10 xs (⟨n_,1,false⟩:fe)) ?_))
               have em:(xs++[(⟨n_,1,false⟩:fe)]).map jN=xs.map jN++[jN (⟨n_,1,false⟩:fe)]:=List.map_append;have el:(xs++[(⟨n_,1,false⟩:fe)]).length=xs.length+1:=by simp
               exact⟨.L true (g+1) (xs++[(⟨n_,1,false⟩:fe)]) f (j3+2) (by rw[el];omega) (by rw[el];omega) (by omega) h,Nat.lt_succ_self f,rfl,by dsimp only[xb.hp];rw[em,el]⟩
           |false=>
            rw[show (if(aq l j3).k=1 then kindOf (aq l j3).t else none)=none by unfold kindOf;rw[lV,rH,vO];simp]at h;dsimp only[aF.then]at h;have cw:=bM (l:=l) (m:=m) (e:=0) 240 j3;obtain rfl:=h;dsimp only[aF.then]at hR;obtain rfl:=hR;iterate 100 all_goals ((try conv=>whnf);try first|(with_reducible first|refine zY ?_|refine zN ?_|refine zT ?_|refine br (fun _=> ?_) (fun _=> ?_)|refine⟨rfl,?_⟩)|(refine cg.call rfl ?_)|(refine cf.call rfl ?_)|(refine c2.call rfl ?_)|(refine bL.call mixed rfl ?_)|(refine cp.call rfl ?_)|(refine cw.bO rfl fun h=> ?_))
            exact aW (ai _ _)
end
end Go.Proofs.YtbjifmbemdhndaaGreatDoor
