/- Parts of the proof of PParserBlanks, one behind the other, with short names. -/
import Derived.Test.YtbjifmbemdhndaaGreatDoorZ41
set_option linter.unusedVariables false
set_option linter.unusedSimpArgs false
namespace Go.Proofs.YtbjifmbemdhndaaGreatDoor
open Ab Go.RowKit
set_option maxRecDepth 100000
set_option maxHeartbeats 8000000
attribute [local irreducible] bB cH
section
variable {l:List TP} {m e:Nat}
theorem wT(n:List UInt8){gr:SV}(wR:bJ gr):jb (fun v=>mV (iZ 2 n [] .ak .ak false gr v .ak .ak .ak .ak 0 .ak)):=qo (pre:=[.int .u8 2,.str n,.str [],.ak,.ak,.bool false,gr]) (post:=[.ak,.ak,.int .u8 0,.int .u8 0,.int .i64 0,.str [],.str [],.str [],.int .i64 0,.int .u8 0,.ak,.ak,.ak,.int .i64 0,.ak]) (MB wR) (pX rfl)
theorem OV(n:List UInt8){gr:SV}(hl:l.length<=65536)(wR:bJ gr)(i:Nat)(hi:i<=l.length):aZ Tryz.prog 141 (aT true) ⟨3,[(2,(fun v=>mV (iZ 2 n [] .ak .ak false gr v .ak .ak .ak .ak 0 .ak)) .ak),(1,lZ),(0,dx l i m 0)]⟩ (Cc l m 0 (fun v=>mV (iZ 2 n [] .ak .ak false gr v .ak .ak .ak .ak 0 .ak)) 28 1 CG (wN (aq l) l.length (bD l) i)):=by
 unfold wN;cases h1:cj (aq l) [40] i with
 |false=>
  have c2:=bh (m:=m) (e:=0) hl h1;rw[show aA (aq l) [40] i= .bad 240 i by unfold aA;rw[h1];rfl]
  try dsimp only[aF.then]
  refine pP.call mixed rfl ?_;iterate 30 all_goals ((try conv=>whnf);try first|(with_reducible first|refine zY ?_|refine zN ?_|refine zT ?_|refine br (fun _=> ?_) (fun _=> ?_)|refine⟨rfl,?_⟩)|(refine dy c2 rfl rfl rfl fun h=> ?_))
 |true=>
  have c2:=aS (m:=m) (e:=0) hl h1;have:=aI h1;rw[show aA (aq l) [40] i= .ok () (i+1) by unfold aA;rw[h1];rfl]
  try dsimp only[aF.then]
  have Ho:=Ch (m:=m) hl;have Hp:i+1<=l.length:=by omega
  cases h3:cN (aq l) l.length (bD l) 12 [] (i+1)with
  |bad er j=>
   try dsimp only[aF.then]
   refine pP.call mixed rfl ?_;iterate 44 all_goals ((try conv=>whnf);try first|(with_reducible first|refine zY ?_|refine zN ?_|refine zT ?_|refine br (fun _=> ?_) (fun _=> ?_)|refine⟨rfl,?_⟩)|(refine aP c2 rfl rfl rfl ?_)|(refine iu hl Ho (by decide) Hp h3 rfl rfl rfl rfl fun h=> ?_))
  |ok r j4=>
   have:=(gd eO _ _ _ _ _ (by omega) h3).2
   try dsimp only[aF.then]
   cases h7:cj (aq l) [41] j4 with
   |false=>
    have c8:=bh (m:=m) (e:=0) hl h7;rw[show aA (aq l) [41] j4= .bad 240 j4 by unfold aA;rw[h7];rfl]
    try dsimp only[aF.then]
    refine pP.call mixed rfl ?_;iterate 58 all_goals ((try conv=>whnf);try first|(with_reducible first|refine zY ?_|refine zN ?_|refine zT ?_|refine br (fun _=> ?_) (fun _=> ?_)|refine⟨rfl,?_⟩)|(refine aP c2 rfl rfl rfl ?_)|(refine cI hl Ho (by decide) Hp h3 rfl rfl rfl rfl ?_)|(refine dy c8 rfl rfl rfl fun h=> ?_))
   |true=>
    have c8:=aS (m:=m) (e:=0) hl h7;have:=aI h7;rw[show aA (aq l) [41] j4= .ok () (j4+1) by unfold aA;rw[h7];rfl]
    try dsimp only[aF.then]
    refine j0 (wT (n:=n) (gr:=gr) wR) sL (pP.call mixed rfl ?_);iterate 72 all_goals ((try conv=>whnf);try first|(with_reducible first|refine zY ?_|refine zN ?_|refine zT ?_|refine br (fun _=> ?_) (fun _=> ?_)|refine⟨rfl,?_⟩)|(refine aP c2 rfl rfl rfl ?_)|(refine cI hl Ho (by decide) Hp h3 rfl rfl rfl rfl ?_)|(refine aP c8 rfl rfl rfl ?_)|(refine cB rfl (by decide) ?_))
    exact⟨fun k=>Nat.blt 2 k&& !Nat.beq k 7,_,_,.inl rfl,.refl,rfl,7,by decide,rfl⟩
theorem OW(n:List UInt8){gr:SV}(hl:l.length<=65536)(wR:bJ gr)(i:Nat)(hi:i<=l.length){g:Nat}(xs:List _)(hx:xs.length<=1000):aZ Tryz.prog 141 (aT true) ⟨4,[(3,.vec g 1 (xs.map CG) ⟨true,some 28⟩),(2,(fun v=>mV (iZ 2 n [] .ak .ak false gr v .ak .ak .ak .ak 0 .ak)) (.sl 3 g 1 0 xs.length none)),(1,lZ),(0,dx l i m 0)]⟩ (Cd l m 0 (fun v=>mV (iZ 2 n [] .ak .ak false gr v .ak .ak .ak .ak 0 .ak)) 28 1 CG g xs (wN (aq l) l.length (bD l) i)):=by
 unfold wN;cases h1:cj (aq l) [40] i with
 |false=>
  have c2:=bh (m:=m) (e:=0) hl h1;rw[show aA (aq l) [40] i= .bad 240 i by unfold aA;rw[h1];rfl]
  try dsimp only[aF.then]
  refine pP.call mixed rfl ?_;iterate 30 all_goals ((try conv=>whnf);try first|(with_reducible first|refine zY ?_|refine zN ?_|refine zT ?_|refine br (fun _=> ?_) (fun _=> ?_)|refine⟨rfl,?_⟩)|(refine dy c2 rfl rfl rfl fun h=> ?_))
 |true=>
  have c2:=aS (m:=m) (e:=0) hl h1;have:=aI h1;rw[show aA (aq l) [40] i= .ok () (i+1) by unfold aA;rw[h1];rfl]
  try dsimp only[aF.then]
  have Ho:=Ch (m:=m) hl;have Hp:i+1<=l.length:=by omega
  cases h3:cN (aq l) l.length (bD l) 12 [] (i+1)with
  |bad er j=>
   try dsimp only[aF.then]
   refine pP.call mixed rfl ?_;iterate 44 all_goals ((try conv=>whnf);try first|(with_reducible first|refine zY ?_|refine zN ?_|refine zT ?_|refine br (fun _=> ?_) (fun _=> ?_)|refine⟨rfl,?_⟩)|(refine aP c2 rfl rfl rfl ?_)|(refine iu hl Ho (by decide) Hp h3 rfl rfl rfl rfl fun h=> ?_))
  |ok r j4=>
   have:=(gd eO _ _ _ _ _ (by omega) h3).2
   try dsimp only[aF.then]
   cases h7:cj (aq l) [41] j4 with
   |false=>
    have c8:=bh (m:=m) (e:=0) hl h7;rw[show aA (aq l) [41] j4= .bad 240 j4 by unfold aA;rw[h7];rfl]
    try dsimp only[aF.then]
    refine pP.call mixed rfl ?_;iterate 58 all_goals ((try conv=>whnf);try first|(with_reducible first|refine zY ?_|refine zN ?_|refine zT ?_|refine br (fun _=> ?_) (fun _=> ?_)|refine⟨rfl,?_⟩)|(refine aP c2 rfl rfl rfl ?_)|(refine cI hl Ho (by decide) Hp h3 rfl rfl rfl rfl ?_)|(refine dy c8 rfl rfl rfl fun h=> ?_))
   |true=>
    have c8:=aS (m:=m) (e:=0) hl h7;have:=aI h7;rw[show aA (aq l) [41] j4= .ok () (j4+1) by unfold aA;rw[h7];rfl]
    try dsimp only[aF.then]
    refine ke (wT (n:=n) (gr:=gr) wR) sL (pP.call mixed rfl ?_);iterate 72 all_goals ((try conv=>whnf);try first|(with_reducible first|refine zY ?_|refine zN ?_|refine zT ?_|refine br (fun _=> ?_) (fun _=> ?_)|refine⟨rfl,?_⟩)|(refine aP c2 rfl rfl rfl ?_)|(refine cI hl Ho (by decide) Hp h3 rfl rfl rfl rfl ?_)|(refine aP c8 rfl rfl rfl ?_)|(refine bA (by simp) rfl (by decide) rfl (by omega) (by omega) ?_))
    exact⟨fun k=>Nat.blt 3 k,_,_,.inl rfl,.refl,rfl,rfl⟩
theorem Cl(n:List UInt8){gr:SV}(hl:l.length<=65536)(wR:bJ gr):oh true 141 l m 0 (fun v=>mV (iZ 2 n [] .ak .ak false gr v .ak .ak .ak .ak 0 .ak)) 28 1 (wN (aq l) l.length (bD l)) CG:=
 oh.of (wT (n:=n) (gr:=gr) wR) rfl sL (Ac) (fun i hi=>OV (n:=n) (gr:=gr) hl wR i hi) fun i xs g hi hx=>OW (n:=n) (gr:=gr) hl wR i hi xs hx
theorem Ak(hl:l.length<=65536)(i:Nat)(hi:i<=l.length):cy Tryz.prog 83 [] (dx l i m 0) (qL l m (qj (aq l) l.length (dP aH) (bD l) i)) (dx l (lA (qj (aq l) l.length (dP aH) (bD l) i)) m 0):=by
 unfold qj;cases h1:cj (aq l) [105,110,115,101,114,116] i with
 |false=>
  have c3:=yU (m:=m) (e:=0) (t:=[105,110,116,111]) hl h1;rw[show aA (aq l) [105,110,115,101,114,116] i= .bad 240 i by unfold aA;rw[h1];rfl]
  try dsimp only[aF.then]
  refine⟨aO,ah ..,ah ..,ai ..,qF.call mixed rfl ?_⟩;iterate 30 all_goals ((try conv=>whnf);try first|(with_reducible first|refine zY ?_|refine zN ?_|refine zT ?_|refine br (fun _=> ?_) (fun _=> ?_)|refine⟨rfl,?_⟩)|(refine FJ c3 rfl rfl rfl fun h=> ?_))
  exact aW (ai _ _)
 |true=>
  have:=aI h1;rw[show aA (aq l) [105,110,115,101,114,116] i= .ok () (i+1) by unfold aA;rw[h1];rfl]
  try dsimp only[aF.then]
  cases h2:cj (aq l) [105,110,116,111] (i+1)with
  |false=>
   have c3:=yV (m:=m) (e:=0) hl h1 h2;rw[show aA (aq l) [105,110,116,111] (i+1)= .bad 240 (i+1) by unfold aA;rw[h2];rfl]
   try dsimp only[aF.then]
   refine⟨aO,ah ..,ah ..,ai ..,qF.call mixed rfl ?_⟩;iterate 30 all_goals ((try conv=>whnf);try first|(with_reducible first|refine zY ?_|refine zN ?_|refine zT ?_|refine br (fun _=> ?_) (fun _=> ?_)|refine⟨rfl,?_⟩)|(refine FJ c3 rfl rfl rfl fun h=> ?_))
   exact aW (ai _ _)
  |true=>
   have c3:=yW (m:=m) (e:=0) hl h1 h2;have:=aI h2;rw[show aA (aq l) [105,110,116,111] (i+1)= .ok () (i+2) by unfold aA;rw[h2];rfl]
   try dsimp only[aF.then]
   cases h4:de (aq l) (dP aH) (i+2)with
   |bad er j=>
    have c5:=cM (m:=m) (e:=0) hl h4
    try dsimp only[aF.then]
    refine⟨aO,ah ..,ah ..,ai ..,qF.call mixed rfl ?_⟩;iterate 44 all_goals ((try conv=>whnf);try first|(with_reducible first|refine zY ?_|refine zN ?_|refine zT ?_|refine br (fun _=> ?_) (fun _=> ?_)|refine⟨rfl,?_⟩)|(refine l6 c3 rfl rfl rfl ?_)|(refine c5.bO rfl fun h=> ?_))
    exact aW (ai _ _)
   |ok n j6=>
    have c5:=dz (m:=m) (e:=0) hl h4;have:=(cT _ _ _ (by omega) h4).2
    try dsimp only[aF.then]
    cases h7:cj (aq l) [40] j6 with
    |true=>
     have c8:=gW (l:=l) (m:=m) (e:=0) [40] j6;rw[h7]at c8;have:=aI h7;rw[if_pos rfl]
     try dsimp only[aF.then]
     have fQ:=nJ (m:=m) (e:=0) hl 12 (by decide) j6 (by omega);cases h9:iB (aq l) l.length (dP aH) 12 j6 with
     |bad er j=>
      rw[h9]at fQ;dsimp only[aF.then,lA]at fQ
      try dsimp only[aF.then]
      refine⟨aO,ah ..,ah ..,ai ..,qF.call mixed rfl ?_⟩;iterate 72 all_goals ((try conv=>whnf);try first|(with_reducible first|refine zY ?_|refine zN ?_|refine zT ?_|refine br (fun _=> ?_) (fun _=> ?_)|refine⟨rfl,?_⟩)|(refine l6 c3 rfl rfl rfl ?_)|(refine c5.call rfl ?_)|(refine c8.call rfl ?_)|(refine fQ.bO rfl fun h=> ?_))
      exact aW (ai _ _)
     |ok ns GY=>
      rw[h9]at fQ;have:=(nK _ _ _ (by omega) h9).2;dsimp only[aF.then,lA]at fQ
      try dsimp only[aF.then]
      cases h12:cj (aq l) [118,97,108,117,101,115] GY with
      |false=>
       have iV:=bh (m:=m) (e:=0) hl h12;rw[show aA (aq l) [118,97,108,117,101,115] GY= .bad 240 GY by unfold aA;rw[h12];rfl]
       try dsimp only[aF.then]
       refine⟨aO,ah ..,ah ..,ai ..,qF.call mixed rfl ?_⟩;iterate 86 all_goals ((try conv=>whnf);try first|(with_reducible first|refine zY ?_|refine zN ?_|refine zT ?_|refine br (fun _=> ?_) (fun _=> ?_)|refine⟨rfl,?_⟩)|(refine l6 c3 rfl rfl rfl ?_)|(refine c5.call rfl ?_)|(refine c8.call rfl ?_)|(refine fQ.call rfl ?_)|(refine dy iV rfl rfl rfl fun h=> ?_))
       exact aW (ai _ _)
      |true=>
       have iV:=aS (m:=m) (e:=0) hl h12;have:=aI h12;rw[show aA (aq l) [118,97,108,117,101,115] GY= .ok () (GY+1) by unfold aA;rw[h12];rfl]
       try dsimp only[aF.then]
       have Sz:=Cl (m:=m) (n:=n) hl (bx 1 (ns.map SV.str));have SA:GY+1<=l.length:=by omega
       cases xO:cN (aq l) l.length (wN (aq l) l.length (bD l)) 64 [] (GY+1)with
       |bad er j=>
        try dsimp only[aF.then]
        refine⟨aO,ah ..,ah ..,ai ..,qF.call mixed rfl ?_⟩;iterate 100 all_goals ((try conv=>whnf);try first|(with_reducible first|refine zY ?_|refine zN ?_|refine zT ?_|refine br (fun _=> ?_) (fun _=> ?_)|refine⟨rfl,?_⟩)|(refine l6 c3 rfl rfl rfl ?_)|(refine c5.call rfl ?_)|(refine c8.call rfl ?_)|(refine fQ.call rfl ?_)|(refine aP iV rfl rfl rfl ?_)|(refine iu hl Sz (by decide) SA xO rfl rfl rfl rfl fun h=> ?_))
        exact aW (ai _ _)
       |ok rows V0=>
        have:=(gd Ac _ _ _ _ _ (by omega) xO).2
        try dsimp only[aF.then]
        refine⟨aO,ah ..,ah ..,cW _,qF.call mixed rfl ?_⟩;iterate 114 all_goals ((try conv=>whnf);try first|(with_reducible first|refine zY ?_|refine zN ?_|refine zT ?_|refine br (fun _=> ?_) (fun _=> ?_)|refine⟨rfl,?_⟩)|(refine l6 c3 rfl rfl rfl ?_)|(refine c5.call rfl ?_)|(refine c8.call rfl ?_)|(refine fQ.call rfl ?_)|(refine aP iV rfl rfl rfl ?_)|(refine cI hl Sz (by decide) SA xO rfl rfl rfl rfl ?_))
        exact bT (dX {kind:=2,name:=n,names:=ns,rows:=rows} .nil .nil (.lit (bx _ _)) (.lit (bx _ _)) .nil .nil .nil .nil .nil .nil) rfl
    |false=>
     have c8:=gW (l:=l) (m:=m) (e:=0) [40] j6;rw[h7]at c8;rw[if_neg (by decide)]
     try dsimp only[aF.then]
     cases rI:cj (aq l) [118,97,108,117,101,115] j6 with
     |false=>
      have rJ:=bh (m:=m) (e:=0) hl rI;rw[show aA (aq l) [118,97,108,117,101,115] j6= .bad 240 j6 by unfold aA;rw[rI];rfl]
      try dsimp only[aF.then]
      refine⟨aO,ah ..,ah ..,ai ..,qF.call mixed rfl ?_⟩;iterate 72 all_goals ((try conv=>whnf);try first|(with_reducible first|refine zY ?_|refine zN ?_|refine zT ?_|refine br (fun _=> ?_) (fun _=> ?_)|refine⟨rfl,?_⟩)|(refine l6 c3 rfl rfl rfl ?_)|(refine c5.call rfl ?_)|(refine c8.call rfl ?_)|(refine dy rJ rfl rfl rfl fun h=> ?_))
      exact aW (ai _ _)
     |true=>
      have rJ:=aS (m:=m) (e:=0) hl rI;have:=aI rI;rw[show aA (aq l) [118,97,108,117,101,115] j6= .ok () (j6+1) by unfold aA;rw[rI];rfl]
      try dsimp only[aF.then]
      have SB:=Cl (m:=m) (n:=n) hl (bJ.ak);have SC:j6+1<=l.length:=by omega
      cases xP:cN (aq l) l.length (wN (aq l) l.length (bD l)) 64 [] (j6+1)with
      |bad er j=>
       try dsimp only[aF.then]
       refine⟨aO,ah ..,ah ..,ai ..,qF.call mixed rfl ?_⟩;iterate 86 all_goals ((try conv=>whnf);try first|(with_reducible first|refine zY ?_|refine zN ?_|refine zT ?_|refine br (fun _=> ?_) (fun _=> ?_)|refine⟨rfl,?_⟩)|(refine l6 c3 rfl rfl rfl ?_)|(refine c5.call rfl ?_)|(refine c8.call rfl ?_)|(refine aP rJ rfl rfl rfl ?_)|(refine iu hl SB (by decide) SC xP rfl rfl rfl rfl fun h=> ?_))
       exact aW (ai _ _)
      |ok rows Y9=>
       have:=(gd Ac _ _ _ _ _ (by omega) xP).2
       try dsimp only[aF.then]
       refine⟨aO,ah ..,ah ..,cW _,qF.call mixed rfl ?_⟩;iterate 100 all_goals ((try conv=>whnf);try first|(with_reducible first|refine zY ?_|refine zN ?_|refine zT ?_|refine br (fun _=> ?_) (fun _=> ?_)|refine⟨rfl,?_⟩)|(refine l6 c3 rfl rfl rfl ?_)|(refine c5.call rfl ?_)|(refine c8.call rfl ?_)|(refine aP rJ rfl rfl rfl ?_)|(refine cI hl SB (by decide) SC xP rfl rfl rfl rfl ?_))
       exact bT (dX {kind:=2,name:=n,rows:=rows} .nil .nil .nil (.lit (bx _ _)) .nil .nil .nil .nil .nil .nil) rfl
end
end Go.Proofs.YtbjifmbemdhndaaGreatDoor
