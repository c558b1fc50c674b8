/- Parts of the proof of PParserBlanks, one behind the other, with short names. -/
import Derived.Test.YtbjifmbemdhndaaGreatDoorZ45
import Derived.Test.YtbjifmbemdhndaaGreatDoorZ36
set_option linter.unusedVariables false
set_option linter.unusedSimpArgs false
namespace Go.Proofs.YtbjifmbemdhndaaGreatDoor
open Ab Go.RowKit
set_option maxRecDepth 100000
set_option maxHeartbeats 8000000
attribute [local irreducible] bB cH
section
variable {l:List TP} {m e:Nat}
theorem DY(hl:l.length<=65536)(i:Nat)(hi:i<=l.length):cy Tryz.prog 29 [] (dx l i m 0) (qL l m (uJ (aq l) l.length (dP aH) (bD l) i)) (dx l (lA (uJ (aq l) l.length (dP aH) (bD l) i)) m 0):=by
 unfold uJ;cases h1:cj (aq l) [115,101,108,101,99,116] i with
 |true=>
  have c2:=gW (l:=l) (m:=m) (e:=0) [115,101,108,101,99,116] i;rw[h1]at c2;have:=aI h1;rw[if_pos rfl]
  try dsimp only[aF.then]
  have c4:=Al (m:=m) hl i (by omega);cases h3:nH (aq l) l.length (dP aH) (bD l) i with
  |bad er j=>
   rw[h3]at c4;dsimp only[aF.then,lA]at c4
   try dsimp only[aF.then]
   refine⟨aO,ah ..,ah ..,ai ..,ij.call mixed rfl ?_⟩;iterate 60 all_goals ((try conv=>whnf);try first|(with_reducible first|refine zY ?_|refine zN ?_|refine zT ?_|refine br (fun _=> ?_) (fun _=> ?_)|refine⟨rfl,?_⟩)|(refine c2.call rfl ?_)|(refine c4.bO rfl fun h=> ?_))
   exact aW (ai _ _)
  |ok s j5=>
   rw[h3]at c4;dsimp only[aF.then,lA]at c4
   try dsimp only[aF.then]
   refine⟨aO,ah ..,ah ..,cW _,ij.call mixed rfl ?_⟩;iterate 80 all_goals ((try conv=>whnf);try first|(with_reducible first|refine zY ?_|refine zN ?_|refine zT ?_|refine br (fun _=> ?_) (fun _=> ?_)|refine⟨rfl,?_⟩)|(refine c2.call rfl ?_)|(refine c4.call rfl ?_))
   exact bT (.lit (cW _)) rfl
 |false=>
  have c2:=gW (l:=l) (m:=m) (e:=0) [115,101,108,101,99,116] i;rw[h1]at c2;rw[if_neg (by decide)]
  try dsimp only[aF.then]
  cases h6:cj (aq l) [105,110,115,101,114,116] i with
  |true=>
   have c7:=gW (l:=l) (m:=m) (e:=0) [105,110,115,101,114,116] i;rw[h6]at c7;have:=aI h6;rw[if_pos rfl]
   try dsimp only[aF.then]
   have c9:=Ak (m:=m) hl i (by omega);cases h8:qj (aq l) l.length (dP aH) (bD l) i with
   |bad er j=>
    rw[h8]at c9;dsimp only[aF.then,lA]at c9
    try dsimp only[aF.then]
    refine⟨aO,ah ..,ah ..,ai ..,ij.call mixed rfl ?_⟩;iterate 80 all_goals ((try conv=>whnf);try first|(with_reducible first|refine zY ?_|refine zN ?_|refine zT ?_|refine br (fun _=> ?_) (fun _=> ?_)|refine⟨rfl,?_⟩)|(refine c2.call rfl ?_)|(refine c7.call rfl ?_)|(refine c9.bO rfl fun h=> ?_))
    exact aW (ai _ _)
   |ok s sZ=>
    rw[h8]at c9;dsimp only[aF.then,lA]at c9
    try dsimp only[aF.then]
    refine⟨aO,ah ..,ah ..,cW _,ij.call mixed rfl ?_⟩;iterate 100 all_goals ((try conv=>whnf);try first|(with_reducible first|refine zY ?_|refine zN ?_|refine zT ?_|refine br (fun _=> ?_) (fun _=> ?_)|refine⟨rfl,?_⟩)|(refine c2.call rfl ?_)|(refine c7.call rfl ?_)|(refine c9.call rfl ?_))
    exact bT (.lit (cW _)) rfl
  |false=>
   have c7:=gW (l:=l) (m:=m) (e:=0) [105,110,115,101,114,116] i;rw[h6]at c7;rw[if_neg (by decide)]
   try dsimp only[aF.then]
   cases h11:cj (aq l) [117,112,100,97,116,101] i with
   |true=>
    have kK:=gW (l:=l) (m:=m) (e:=0) [117,112,100,97,116,101] i;rw[h11]at kK;have:=aI h11;rw[if_pos rfl]
    try dsimp only[aF.then]
    have kf:=Aj (m:=m) hl i (by omega);cases Hl:qk (aq l) l.length (dP aH) (bD l) i with
    |bad er j=>
     rw[Hl]at kf;dsimp only[aF.then,lA]at kf
     try dsimp only[aF.then]
     refine⟨aO,ah ..,ah ..,ai ..,ij.call mixed rfl ?_⟩;iterate 100 all_goals ((try conv=>whnf);try first|(with_reducible first|refine zY ?_|refine zN ?_|refine zT ?_|refine br (fun _=> ?_) (fun _=> ?_)|refine⟨rfl,?_⟩)|(refine c2.call rfl ?_)|(refine c7.call rfl ?_)|(refine kK.call rfl ?_)|(refine kf.bO rfl fun h=> ?_))
     exact aW (ai _ _)
    |ok s V0=>
     rw[Hl]at kf;dsimp only[aF.then,lA]at kf
     try dsimp only[aF.then]
     refine⟨aO,ah ..,ah ..,cW _,ij.call mixed rfl ?_⟩;iterate 120 all_goals ((try conv=>whnf);try first|(with_reducible first|refine zY ?_|refine zN ?_|refine zT ?_|refine br (fun _=> ?_) (fun _=> ?_)|refine⟨rfl,?_⟩)|(refine c2.call rfl ?_)|(refine c7.call rfl ?_)|(refine kK.call rfl ?_)|(refine kf.call rfl ?_))
     exact bT (.lit (cW _)) rfl
   |false=>
    have kK:=gW (l:=l) (m:=m) (e:=0) [117,112,100,97,116,101] i;rw[h11]at kK;rw[if_neg (by decide)]
    try dsimp only[aF.then]
    cases tV:cj (aq l) [100,101,108,101,116,101] i with
    |true=>
     have hG:=gW (l:=l) (m:=m) (e:=0) [100,101,108,101,116,101] i;rw[tV]at hG;have:=aI tV;rw[if_pos rfl]
     try dsimp only[aF.then]
     have rJ:=Ai (m:=m) hl i (by omega);cases rI:ql (aq l) (dP aH) (bD l) i with
     |bad er j=>
      rw[rI]at rJ;dsimp only[aF.then,lA]at rJ
      try dsimp only[aF.then]
      refine⟨aO,ah ..,ah ..,ai ..,ij.call mixed rfl ?_⟩;iterate 120 all_goals ((try conv=>whnf);try first|(with_reducible first|refine zY ?_|refine zN ?_|refine zT ?_|refine br (fun _=> ?_) (fun _=> ?_)|refine⟨rfl,?_⟩)|(refine c2.call rfl ?_)|(refine c7.call rfl ?_)|(refine kK.call rfl ?_)|(refine hG.call rfl ?_)|(refine rJ.bO rfl fun h=> ?_))
      exact aW (ai _ _)
     |ok s OS=>
      rw[rI]at rJ;dsimp only[aF.then,lA]at rJ
      try dsimp only[aF.then]
      refine⟨aO,ah ..,ah ..,cW _,ij.call mixed rfl ?_⟩;iterate 140 all_goals ((try conv=>whnf);try first|(with_reducible first|refine zY ?_|refine zN ?_|refine zT ?_|refine br (fun _=> ?_) (fun _=> ?_)|refine⟨rfl,?_⟩)|(refine c2.call rfl ?_)|(refine c7.call rfl ?_)|(refine kK.call rfl ?_)|(refine hG.call rfl ?_)|(refine rJ.call rfl ?_))
      exact bT (.lit (cW _)) rfl
    |false=>
     have hG:=gW (l:=l) (m:=m) (e:=0) [100,101,108,101,116,101] i;rw[tV]at hG;rw[if_neg (by decide)]
     try dsimp only[aF.then]
     cases DW:cj (aq l) [99,114,101,97,116,101] i with
     |true=>
      have kg:=bG (m:=m) (e:=0) hl DW;have:=aI DW;rw[if_pos rfl]
      try dsimp only[aF.then]
      cases h23:cj (aq l) [116,97,98,108,101] (i+1)with
      |true=>
       have An:=gW (l:=l) (m:=m) (e:=0) [116,97,98,108,101] (i+1);rw[h23]at An;have:=aI h23;rw[if_pos rfl]
       try dsimp only[aF.then]
       have Ap:=Cm (m:=m) hl (i+1) (by omega);cases MD:tP (aq l) l.length (dP aH) (i+1)with
       |bad er j=>
        rw[MD]at Ap;dsimp only[aF.then,lA]at Ap
        try dsimp only[aF.then]
        refine⟨aO,ah ..,ah ..,ai ..,ij.call mixed rfl ?_⟩;iterate 160 all_goals ((try conv=>whnf);try first|(with_reducible first|refine zY ?_|refine zN ?_|refine zT ?_|refine br (fun _=> ?_) (fun _=> ?_)|refine⟨rfl,?_⟩)|(refine c2.call rfl ?_)|(refine c7.call rfl ?_)|(refine kK.call rfl ?_)|(refine hG.call rfl ?_)|(refine kg.call rfl ?_)|(refine An.call rfl ?_)|(refine Ap.bO rfl fun h=> ?_))
        exact aW (ai _ _)
       |ok s Za=>
        rw[MD]at Ap;dsimp only[aF.then,lA]at Ap
        try dsimp only[aF.then]
        refine⟨aO,ah ..,ah ..,cW _,ij.call mixed rfl ?_⟩;iterate 180 all_goals ((try conv=>whnf);try first|(with_reducible first|refine zY ?_|refine zN ?_|refine zT ?_|refine br (fun _=> ?_) (fun _=> ?_)|refine⟨rfl,?_⟩)|(refine c2.call rfl ?_)|(refine c7.call rfl ?_)|(refine kK.call rfl ?_)|(refine hG.call rfl ?_)|(refine kg.call rfl ?_)|(refine An.call rfl ?_)|(refine Ap.call rfl ?_))
        exact bT (.lit (cW _)) rfl
      |false=>
       have An:=gW (l:=l) (m:=m) (e:=0) [116,97,98,108,101] (i+1);rw[h23]at An;rw[if_neg (by decide)]
       try dsimp only[aF.then]
       have Qw:=Ck (m:=m) hl (i+1) (by omega);cases V3:tQ (aq l) l.length (dP aH) (i+1)with
       |bad er j=>
        rw[V3]at Qw;dsimp only[aF.then,lA]at Qw
        try dsimp only[aF.then]
        refine⟨aO,ah ..,ah ..,ai ..,ij.call mixed rfl ?_⟩;iterate 160 all_goals ((try conv=>whnf);try first|(with_reducible first|refine zY ?_|refine zN ?_|refine zT ?_|refine br (fun _=> ?_) (fun _=> ?_)|refine⟨rfl,?_⟩)|(refine c2.call rfl ?_)|(refine c7.call rfl ?_)|(refine kK.call rfl ?_)|(refine hG.call rfl ?_)|(refine kg.call rfl ?_)|(refine An.call rfl ?_)|(refine Qw.bO rfl fun h=> ?_))
        exact aW (ai _ _)
       |ok s y4=>
        rw[V3]at Qw;dsimp only[aF.then,lA]at Qw
        try dsimp only[aF.then]
        refine⟨aO,ah ..,ah ..,cW _,ij.call mixed rfl ?_⟩;iterate 180 all_goals ((try conv=>whnf);try first|(with_reducible first|refine zY ?_|refine zN ?_|refine zT ?_|refine br (fun _=> ?_) (fun _=> ?_)|refine⟨rfl,?_⟩)|(refine c2.call rfl ?_)|(refine c7.call rfl ?_)|(refine kK.call rfl ?_)|(refine hG.call rfl ?_)|(refine kg.call rfl ?_)|(refine An.call rfl ?_)|(refine Qw.call rfl ?_))
        exact bT (.lit (cW _)) rfl
     |false=>
      have kg:=bU (m:=m) (e:=0) hl DW;rw[if_neg (by decide)]
      try dsimp only[aF.then]
      cases UA:cj (aq l) [98,101,103,105,110] i with
      |true=>
       have c32:=bG (m:=m) (e:=0) hl UA;have:=aI UA;rw[if_pos rfl]
       try dsimp only[aF.then]
       refine⟨aO,ah ..,ah ..,cW _,ij.call mixed rfl ?_⟩;iterate 160 all_goals ((try conv=>whnf);try first|(with_reducible first|refine zY ?_|refine zN ?_|refine zT ?_|refine br (fun _=> ?_) (fun _=> ?_)|refine⟨rfl,?_⟩)|(refine c2.call rfl ?_)|(refine c7.call rfl ?_)|(refine kK.call rfl ?_)|(refine hG.call rfl ?_)|(refine kg.call rfl ?_)|(refine c32.call rfl ?_))
       exact bT (dX {kind:=7} .nil .nil .nil .nil .nil .nil .nil .nil .nil .nil) rfl
      |false=>
       have c32:=bU (m:=m) (e:=0) hl UA;rw[if_neg (by decide)]
       try dsimp only[aF.then]
       cases K7:cj (aq l) [99,111,109,109,105,116] i with
       |true=>
        have c34:=bG (m:=m) (e:=0) hl K7;have:=aI K7;rw[if_pos rfl]
        try dsimp only[aF.then]
        refine⟨aO,ah ..,ah ..,cW _,ij.call mixed rfl ?_⟩;iterate 180 all_goals ((try conv=>whnf);try first|(with_reducible first|refine zY ?_|refine zN ?_|refine zT ?_|refine br (fun _=> ?_) (fun _=> ?_)|refine⟨rfl,?_⟩)|(refine c2.call rfl ?_)|(refine c7.call rfl ?_)|(refine kK.call rfl ?_)|(refine hG.call rfl ?_)|(refine kg.call rfl ?_)|(refine c32.call rfl ?_)|(refine c34.call rfl ?_))
        exact bT (dX {kind:=8} .nil .nil .nil .nil .nil .nil .nil .nil .nil .nil) rfl
       |false=>
        have c34:=bU (m:=m) (e:=0) hl K7;rw[if_neg (by decide)]
        try dsimp only[aF.then]
        cases K8:cj (aq l) [114,111,108,108,98,97,99,107] i with
        |true=>
         have GZ:=bG (m:=m) (e:=0) hl K8;have:=aI K8;rw[if_pos rfl]
         try dsimp only[aF.then]
         cases UB:cj (aq l) [116,111] (i+1)with
         |true=>
          have Tg:=bG (m:=m) (e:=0) hl UB;have:=aI UB;rw[if_pos rfl]
          try dsimp only[aF.then]
          cases Oy:de (aq l) (dP aH) (i+2)with
          |bad er j=>
           have UC:=cM (m:=m) (e:=0) hl Oy
           try dsimp only[aF.then]
           refine⟨aO,ah ..,ah ..,ai ..,ij.call mixed rfl ?_⟩;iterate 220 all_goals ((try conv=>whnf);try first|(with_reducible first|refine zY ?_|refine zN ?_|refine zT ?_|refine br (fun _=> ?_) (fun _=> ?_)|refine⟨rfl,?_⟩)|(refine c2.call rfl ?_)|(refine c7.call rfl ?_)|(refine kK.call rfl ?_)|(refine hG.call rfl ?_)|(refine kg.call rfl ?_)|(refine c32.call rfl ?_)|(refine c34.call rfl ?_)|(refine GZ.call rfl ?_)|(refine Tg.call rfl ?_)|(refine UC.bO rfl fun h=> ?_))
           exact aW (ai _ _)
          |ok n Zb=>
           have UC:=dz (m:=m) (e:=0) hl Oy;have:=(cT _ _ _ (by omega) Oy).2
           try dsimp only[aF.then]
           refine⟨aO,ah ..,ah ..,cW _,ij.call mixed rfl ?_⟩;iterate 240 all_goals ((try conv=>whnf);try first|(with_reducible first|refine zY ?_|refine zN ?_|refine zT ?_|refine br (fun _=> ?_) (fun _=> ?_)|refine⟨rfl,?_⟩)|(refine c2.call rfl ?_)|(refine c7.call rfl ?_)|(refine kK.call rfl ?_)|(refine hG.call rfl ?_)|(refine kg.call rfl ?_)|(refine c32.call rfl ?_)|(refine c34.call rfl ?_)|(refine GZ.call rfl ?_)|(refine Tg.call rfl ?_)|(refine UC.call rfl ?_))
           exact bT (dX {kind:=11,name:=n} .nil .nil .nil .nil .nil .nil .nil .nil .nil .nil) rfl
         |false=>
          have Tg:=bU (m:=m) (e:=0) hl UB;rw[if_neg (by decide)]
          try dsimp only[aF.then]
          refine⟨aO,ah ..,ah ..,cW _,ij.call mixed rfl ?_⟩;iterate 220 all_goals ((try conv=>whnf);try first|(with_reducible first|refine zY ?_|refine zN ?_|refine zT ?_|refine br (fun _=> ?_) (fun _=> ?_)|refine⟨rfl,?_⟩)|(refine c2.call rfl ?_)|(refine c7.call rfl ?_)|(refine kK.call rfl ?_)|(refine hG.call rfl ?_)|(refine kg.call rfl ?_)|(refine c32.call rfl ?_)|(refine c34.call rfl ?_)|(refine GZ.call rfl ?_)|(refine Tg.call rfl ?_))
          exact bT (dX {kind:=9} .nil .nil .nil .nil .nil .nil .nil .nil .nil .nil) rfl
        |false=>
         have GZ:=bU (m:=m) (e:=0) hl K8;rw[if_neg (by decide)]
         try dsimp only[aF.then]
         cases UD:cj (aq l) [115,97,118,101,112,111,105,110,116] i with
         |true=>
          have Ti:=bG (m:=m) (e:=0) hl UD;have:=aI UD;rw[if_pos rfl]
          try dsimp only[aF.then]
          cases UE:de (aq l) (dP aH) (i+1)with
          |bad er j=>
           have UF:=cM (m:=m) (e:=0) hl UE
           try dsimp only[aF.then]
           refine⟨aO,ah ..,ah ..,ai ..,ij.call mixed rfl ?_⟩;iterate 220 all_goals ((try conv=>whnf);try first|(with_reducible first|refine zY ?_|refine zN ?_|refine zT ?_|refine br (fun _=> ?_) (fun _=> ?_)|refine⟨rfl,?_⟩)|(refine c2.call rfl ?_)|(refine c7.call rfl ?_)|(refine kK.call rfl ?_)|(refine hG.call rfl ?_)|(refine kg.call rfl ?_)|(refine c32.call rfl ?_)|(refine c34.call rfl ?_)|(refine GZ.call rfl ?_)|(refine Ti.call rfl ?_)|(refine UF.bO rfl fun h=> ?_))
           exact aW (ai _ _)
          |ok n Zc=>
           have UF:=dz (m:=m) (e:=0) hl UE;have:=(cT _ _ _ (by omega) UE).2
           try dsimp only[aF.then]
           refine⟨aO,ah ..,ah ..,cW _,ij.call mixed rfl ?_⟩;iterate 240 all_goals ((try conv=>whnf);try first|(with_reducible first|refine zY ?_|refine zN ?_|refine zT ?_|refine br (fun _=> ?_) (fun _=> ?_)|refine⟨rfl,?_⟩)|(refine c2.call rfl ?_)|(refine c7.call rfl ?_)|(refine kK.call rfl ?_)|(refine hG.call rfl ?_)|(refine kg.call rfl ?_)|(refine c32.call rfl ?_)|(refine c34.call rfl ?_)|(refine GZ.call rfl ?_)|(refine Ti.call rfl ?_)|(refine UF.call rfl ?_))
           exact bT (dX {kind:=10,name:=n} .nil .nil .nil .nil .nil .nil .nil .nil .nil .nil) rfl
         |false=>
          have Ti:=bU (m:=m) (e:=0) hl UD;rw[if_neg (by decide)]
          try dsimp only[aF.then]
          have cw:=bM (l:=l) (m:=m) (e:=0) 240 i;refine⟨aO,ah ..,ah ..,ai ..,ij.call mixed rfl ?_⟩;iterate 220 all_goals ((try conv=>whnf);try first|(with_reducible first|refine zY ?_|refine zN ?_|refine zT ?_|refine br (fun _=> ?_) (fun _=> ?_)|refine⟨rfl,?_⟩)|(refine c2.call rfl ?_)|(refine c7.call rfl ?_)|(refine kK.call rfl ?_)|(refine hG.call rfl ?_)|(refine kg.call rfl ?_)|(refine c32.call rfl ?_)|(refine c34.call rfl ?_)|(refine GZ.call rfl ?_)|(refine Ti.call rfl ?_)|(refine cw.bO rfl fun h=> ?_))
          exact aW (ai _ _)
end
end Go.Proofs.YtbjifmbemdhndaaGreatDoor
namespace Go.Proofs.YtbjifmbemdhndaaGreatDoor
open Ab Go.RowKit
set_option maxRecDepth 100000
set_option maxHeartbeats 4000000
attribute [local irreducible] bB cH
def MF:List (Nat×cE):=[(21,t21),(28,t28)]
theorem K9:gv Tryz.prog MF:= .cons LZ (.cons L2 .nil)
theorem OY{args:List SV}{h:Heap}{R:cG->Heap->Prop}(hn:Nat.ble args.length t10.nt=true)
  (hp:xI Tryz.prog (bK Tryz.prog) (fR Tryz.prog) t10.code (Jh Tryz.prog (KW Tryz.prog MF (bK Tryz.prog) (fR Tryz.prog)) t10.rs R) (fH 0 args) h []):aZ Tryz.prog 10 args h R:=
 LV.Si rL (fun _ _ _ _ h=>h) (wM mixed K9 rL fun _ _ _ _ h=>h) mixed hn hp
def OZ:Sm:={kind:=0}
def qM(T:nE)(j:Nat):Nat:=if cj T [59] j then j+1 else j
def eL(l:List TP)(m:Nat):Sm×Int×Nat:=match uJ (aq l) l.length (dP aH) (bD l) 0 with
 | .bad er j=>(OZ,er,dF l m j)
 | .ok x j=>if qM (aq l) j<l.length then(OZ,240,dF l m (qM (aq l) j))else(x,0,0)
def wW(s:List UInt8):SV:=match xC s with
 | .error (er,a)=> .bn [JW OZ,wG er a]
 | .ok l=> .bn [JW (eL l s.length).1,wG (eL l s.length).2.1 (eL l s.length).2.2]
theorem sM{A:Heap}:cq A (.agg (iZ 0 [] [] .ak .ak false .ak .ak .ak .ak .ak .ak 0 .ak)) (JW OZ):=dX OZ .nil .nil .nil .nil .nil .nil .nil .nil .nil .nil
theorem rE{s:List UInt8}(hs:s.length<=65536):aj Tryz.prog 10 [.str s] (wW s):=by
 refine bQ (cZ (.str _)) (OY rfl ?_);have cl:=Fw hs;unfold wW;cases hl:xC s with
 |error p=>
  obtain⟨er,a⟩:=p;rw[hl]at cl;dsimp only[KJ]at cl
  have h1:(!(fun q=>er==0&&q) ((a:Int)==0))=true:=by
   have h0:=oe _ _ _ _ _ hl;have:(er==0)=false:=beq_eq_false_iff_ne.2 h0;show(!(er==0&&_))=true;rw[this];rfl
  iterate 30 all_goals ((try conv=>whnf);try first|(with_reducible first|refine zY ?_|refine zN ?_|refine zT ?_|refine br (fun _=> ?_) (fun _=> ?_)|refine⟨rfl,?_⟩|refine aj.call (cl) ?_))
  exact⟨_,rfl,qh sM (.lit (qi _ _))⟩
 |ok l=>
  rw[hl]at cl;have Kf:l.length<=65536:=Nat.le_trans (yJ (mF _ _ _ _ (Nat.le_refl _) hl)) hs;have c:=DY (m:=s.length) Kf 0 (Nat.zero_le _);dsimp only;cases hf:uJ (aq l) l.length (dP aH) (bD l) 0 with
  |bad er j=>
   rw[hf]at c;dsimp only[lA]at c;rw[show eL l s.length=(OZ,er,dF l s.length j) by unfold eL;rw[hf]];iterate 60 all_goals ((try conv=>whnf);try first|(with_reducible first|refine zY ?_|refine zN ?_|refine zT ?_|refine br (fun _=> ?_) (fun _=> ?_)|refine⟨rfl,?_⟩)|(refine cl.less (kI _) (Jj l) ?_)|(refine c.Oq rfl ?_))
   all_goals exact⟨_,rfl,qh sM (.lit (qi _ _))⟩
  |ok x j=>
   rw[hf]at c;dsimp only[lA]at c;have hr:eL l s.length=if qM (aq l) j<l.length then(OZ,240,dF l s.length (qM (aq l) j))else(x,0,0):=by unfold eL;rw[hf]
   rw[hr];clear hr;cases hg:cj (aq l) [59] j with
   |false=>
    have cg:=bU (m:=s.length) (e:=0) Kf hg;rw[show qM (aq l) j=j by unfold qM;rw[hg];rfl];by_cases hj:j<l.length
    ·rw[if_pos hj]
     have cn:=Ca (m:=s.length) (e:=0) hj;iterate 70 all_goals ((try conv=>whnf);try first|(with_reducible first|refine zY ?_|refine zN ?_|refine zT ?_|refine br (fun _=> ?_) (fun _=> ?_)|refine⟨rfl,?_⟩)|(refine cl.less (kI _) (Jj l) ?_)|(refine c.call rfl ?_)|(refine cg.call rfl ?_)|(refine cn.Oq rfl ?_))
     all_goals exact⟨_,rfl,qh sM (.lit (qi _ _))⟩
    ·rw[if_neg hj]
     have cn:=yQ (m:=s.length) (e:=0) hj;iterate 70 all_goals ((try conv=>whnf);try first|(with_reducible first|refine zY ?_|refine zN ?_|refine zT ?_|refine br (fun _=> ?_) (fun _=> ?_)|refine⟨rfl,?_⟩)|(refine cl.less (kI _) (Jj l) ?_)|(refine c.call rfl ?_)|(refine cg.call rfl ?_)|(refine cn.call rfl ?_))
     all_goals exact⟨_,rfl,qh (.lit (cW x)) (.lit (qi _ _))⟩
   |true=>
    have cg:=bG (m:=s.length) (e:=0) Kf hg;rw[show qM (aq l) j=j+1 by unfold qM;rw[hg];rfl];by_cases hj:j+1<l.length
    ·rw[if_pos hj]
     have cn:=Ca (m:=s.length) (e:=0) hj;iterate 70 all_goals ((try conv=>whnf);try first|(with_reducible first|refine zY ?_|refine zN ?_|refine zT ?_|refine br (fun _=> ?_) (fun _=> ?_)|refine⟨rfl,?_⟩)|(refine cl.less (kI _) (Jj l) ?_)|(refine c.call rfl ?_)|(refine cg.call rfl ?_)|(refine cn.Oq rfl ?_))
     all_goals exact⟨_,rfl,qh sM (.lit (qi _ _))⟩
    ·rw[if_neg hj]
     have cn:=yQ (m:=s.length) (e:=0) hj;iterate 70 all_goals ((try conv=>whnf);try first|(with_reducible first|refine zY ?_|refine zN ?_|refine zT ?_|refine br (fun _=> ?_) (fun _=> ?_)|refine⟨rfl,?_⟩)|(refine cl.less (kI _) (Jj l) ?_)|(refine c.call rfl ?_)|(refine cg.call rfl ?_)|(refine cn.call rfl ?_))
     all_goals exact⟨_,rfl,qh (.lit (cW x)) (.lit (qi _ _))⟩
end Go.Proofs.YtbjifmbemdhndaaGreatDoor
