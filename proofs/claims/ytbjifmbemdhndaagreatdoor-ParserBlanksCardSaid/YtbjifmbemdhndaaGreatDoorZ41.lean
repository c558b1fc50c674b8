/- Parts of the proof of PParserBlanks, one behind the other, with short names. -/
import Derived.Test.YtbjifmbemdhndaaGreatDoorZ40
set_option linter.unusedVariables false
set_option linter.unusedSimpArgs false
namespace Go.Proofs.YtbjifmbemdhndaaGreatDoor
open Ab Go.RowKit
set_option maxRecDepth 100000
set_option maxHeartbeats 8000000
attribute [local irreducible] bB cH
section
variable {l:List TP} {m e:Nat}
theorem Ci(hl:l.length<=65536)(i:Nat)(hi:i<=l.length):cy Tryz.prog 134 [.bool false] (dx l i m 0) (MA l m (gO (aq l) (dP aH) (bD l) false i)) (dx l (lA (gO (aq l) (dP aH) (bD l) false i)) m 0):=by
 unfold gO Mv;cases h1:de (aq l) (dP aH) i with
 |bad er j=>
  have c2:=cM (m:=m) (e:=0) hl h1
  try dsimp only[aF.then]
  refine⟨cZ (.bool _),ah ..,ah ..,ai ..,jn.call mixed rfl ?_⟩;iterate 30 all_goals ((try conv=>whnf);try first|(with_reducible first|refine zY ?_|refine zN ?_|refine zT ?_|refine br (fun _=> ?_) (fun _=> ?_)|refine⟨rfl,?_⟩)|(refine c2.bO rfl fun h=> ?_))
  exact aW (ai _ _)
 |ok n j3=>
  have c2:=dz (m:=m) (e:=0) hl h1;have:=(cT _ _ _ (by omega) h1).2
  try dsimp only[aF.then]
  cases h4:cj (aq l) [97,115] j3 with
  |true=>
   have c5:=bG (m:=m) (e:=0) hl h4;have:=aI h4;rw[if_pos rfl]
   try dsimp only[aF.then]
   cases h6:de (aq l) (dP aH) (j3+1)with
   |bad er j=>
    have c7:=cM (m:=m) (e:=0) hl h6
    try dsimp only[aF.then]
    refine⟨cZ (.bool _),ah ..,ah ..,ai ..,jn.call mixed rfl ?_⟩;iterate 58 all_goals ((try conv=>whnf);try first|(with_reducible first|refine zY ?_|refine zN ?_|refine zT ?_|refine br (fun _=> ?_) (fun _=> ?_)|refine⟨rfl,?_⟩)|(refine c2.call rfl ?_)|(refine c5.call rfl ?_)|(refine c7.bO rfl fun h=> ?_))
    exact aW (ai _ _)
   |ok a j8=>
    have c7:=dz (m:=m) (e:=0) hl h6;have:=(cT _ _ _ (by omega) h6).2
    try dsimp only[aF.then]
    rw[if_neg (by decide)];refine⟨cZ (.bool _),ah ..,ah ..,ld _,jn.call mixed rfl ?_⟩;iterate 72 all_goals ((try conv=>whnf);try first|(with_reducible first|refine zY ?_|refine zN ?_|refine zT ?_|refine br (fun _=> ?_) (fun _=> ?_)|refine⟨rfl,?_⟩)|(refine c2.call rfl ?_)|(refine c5.call rfl ?_)|(refine c7.call rfl ?_))
    exact bT yX rfl
  |false=>
   have c5:=bU (m:=m) (e:=0) hl h4;rw[if_neg (by decide)]
   try dsimp only[aF.then]
   rw[if_neg (by decide)];refine⟨cZ (.bool _),ah ..,ah ..,ld _,jn.call mixed rfl ?_⟩;iterate 58 all_goals ((try conv=>whnf);try first|(with_reducible first|refine zY ?_|refine zN ?_|refine zT ?_|refine br (fun _=> ?_) (fun _=> ?_)|refine⟨rfl,?_⟩)|(refine c2.call rfl ?_)|(refine c5.call rfl ?_))
   exact bT yX rfl
theorem Cj(hl:l.length<=65536)(i:Nat)(hi:i<=l.length):cy Tryz.prog 134 [.bool true] (dx l i m 0) (MA l m (gO (aq l) (dP aH) (bD l) true i)) (dx l (lA (gO (aq l) (dP aH) (bD l) true i)) m 0):=by
 unfold gO Mv;cases h1:de (aq l) (dP aH) i with
 |bad er j=>
  have c2:=cM (m:=m) (e:=0) hl h1
  try dsimp only[aF.then]
  refine⟨cZ (.bool _),ah ..,ah ..,ai ..,jn.call mixed rfl ?_⟩;iterate 30 all_goals ((try conv=>whnf);try first|(with_reducible first|refine zY ?_|refine zN ?_|refine zT ?_|refine br (fun _=> ?_) (fun _=> ?_)|refine⟨rfl,?_⟩)|(refine c2.bO rfl fun h=> ?_))
  exact aW (ai _ _)
 |ok n j3=>
  have c2:=dz (m:=m) (e:=0) hl h1;have:=(cT _ _ _ (by omega) h1).2
  try dsimp only[aF.then]
  cases h4:cj (aq l) [97,115] j3 with
  |true=>
   have c5:=bG (m:=m) (e:=0) hl h4;have:=aI h4;rw[if_pos rfl]
   try dsimp only[aF.then]
   cases h6:de (aq l) (dP aH) (j3+1)with
   |bad er j=>
    have c7:=cM (m:=m) (e:=0) hl h6
    try dsimp only[aF.then]
    refine⟨cZ (.bool _),ah ..,ah ..,ai ..,jn.call mixed rfl ?_⟩;iterate 58 all_goals ((try conv=>whnf);try first|(with_reducible first|refine zY ?_|refine zN ?_|refine zT ?_|refine br (fun _=> ?_) (fun _=> ?_)|refine⟨rfl,?_⟩)|(refine c2.call rfl ?_)|(refine c5.call rfl ?_)|(refine c7.bO rfl fun h=> ?_))
    exact aW (ai _ _)
   |ok a j8=>
    have c7:=dz (m:=m) (e:=0) hl h6;have:=(cT _ _ _ (by omega) h6).2
    try dsimp only[aF.then]
    rw[if_pos rfl];cases h9:cj (aq l) [111,110] j8 with
    |false=>
     have fQ:=bh (m:=m) (e:=0) hl h9;rw[show aA (aq l) [111,110] j8= .bad 240 j8 by unfold aA;rw[h9];rfl]
     try dsimp only[aF.then]
     refine⟨cZ (.bool _),ah ..,ah ..,ai ..,jn.call mixed rfl ?_⟩;iterate 72 all_goals ((try conv=>whnf);try first|(with_reducible first|refine zY ?_|refine zN ?_|refine zT ?_|refine br (fun _=> ?_) (fun _=> ?_)|refine⟨rfl,?_⟩)|(refine c2.call rfl ?_)|(refine c5.call rfl ?_)|(refine c7.call rfl ?_)|(refine dy fQ rfl rfl rfl fun h=> ?_))
     exact aW (ai _ _)
    |true=>
     have fQ:=aS (m:=m) (e:=0) hl h9;have:=aI h9;rw[show aA (aq l) [111,110] j8= .ok () (j8+1) by unfold aA;rw[h9];rfl]
     try dsimp only[aF.then]
     have St:=fL (m:=m) hl;cases h11:bD l (j8+1)with
     |bad er j=>
      have kK:=St.bad (by omega) h11
      try dsimp only[aF.then]
      refine⟨cZ (.bool _),ah ..,ah ..,ai ..,jn.call mixed rfl ?_⟩;iterate 86 all_goals ((try conv=>whnf);try first|(with_reducible first|refine zY ?_|refine zN ?_|refine zT ?_|refine br (fun _=> ?_) (fun _=> ?_)|refine⟨rfl,?_⟩)|(refine c2.call rfl ?_)|(refine c5.call rfl ?_)|(refine c7.call rfl ?_)|(refine aP fQ rfl rfl rfl ?_)|(refine kK.bO rfl fun h=> ?_))
      exact aW (ai _ _)
     |ok x Y5=>
      have kK:=St.ok (by omega) h11;have:=(eO _ _ _ (by omega) h11).2;obtain⟨Ae,v_,Af,Ag,iW,Ah,iX⟩:=x;rw[bt]at kK
      try dsimp only[aF.then]
      refine⟨cZ (.bool _),ah ..,ah ..,ld _,jn.call mixed rfl ?_⟩;iterate 100 all_goals ((try conv=>whnf);try first|(with_reducible first|refine zY ?_|refine zN ?_|refine zT ?_|refine br (fun _=> ?_) (fun _=> ?_)|refine⟨rfl,?_⟩)|(refine c2.call rfl ?_)|(refine c5.call rfl ?_)|(refine c7.call rfl ?_)|(refine aP fQ rfl rfl rfl ?_)|(refine kK.call rfl ?_))
      exact bT (.lit (ld ⟨n,a,.mk Ae v_ Af Ag iW Ah iX⟩)) rfl
  |false=>
   have c5:=bU (m:=m) (e:=0) hl h4;rw[if_neg (by decide)]
   try dsimp only[aF.then]
   rw[if_pos rfl];cases Jw:cj (aq l) [111,110] j3 with
   |false=>
    have c16:=bh (m:=m) (e:=0) hl Jw;rw[show aA (aq l) [111,110] j3= .bad 240 j3 by unfold aA;rw[Jw];rfl]
    try dsimp only[aF.then]
    refine⟨cZ (.bool _),ah ..,ah ..,ai ..,jn.call mixed rfl ?_⟩;iterate 58 all_goals ((try conv=>whnf);try first|(with_reducible first|refine zY ?_|refine zN ?_|refine zT ?_|refine br (fun _=> ?_) (fun _=> ?_)|refine⟨rfl,?_⟩)|(refine c2.call rfl ?_)|(refine c5.call rfl ?_)|(refine dy c16 rfl rfl rfl fun h=> ?_))
    exact aW (ai _ _)
   |true=>
    have c16:=aS (m:=m) (e:=0) hl Jw;have:=aI Jw;rw[show aA (aq l) [111,110] j3= .ok () (j3+1) by unfold aA;rw[Jw];rfl]
    try dsimp only[aF.then]
    have Sv:=fL (m:=m) hl;cases Hj:bD l (j3+1)with
    |bad er j=>
     have qy:=Sv.bad (by omega) Hj
     try dsimp only[aF.then]
     refine⟨cZ (.bool _),ah ..,ah ..,ai ..,jn.call mixed rfl ?_⟩;iterate 72 all_goals ((try conv=>whnf);try first|(with_reducible first|refine zY ?_|refine zN ?_|refine zT ?_|refine br (fun _=> ?_) (fun _=> ?_)|refine⟨rfl,?_⟩)|(refine c2.call rfl ?_)|(refine c5.call rfl ?_)|(refine aP c16 rfl rfl rfl ?_)|(refine qy.bO rfl fun h=> ?_))
     exact aW (ai _ _)
    |ok x Y6=>
     have qy:=Sv.ok (by omega) Hj;have:=(eO _ _ _ (by omega) Hj).2;obtain⟨Ae,v_,Af,Ag,iW,Ah,iX⟩:=x;rw[bt]at qy
     try dsimp only[aF.then]
     refine⟨cZ (.bool _),ah ..,ah ..,ld _,jn.call mixed rfl ?_⟩;iterate 86 all_goals ((try conv=>whnf);try first|(with_reducible first|refine zY ?_|refine zN ?_|refine zT ?_|refine br (fun _=> ?_) (fun _=> ?_)|refine⟨rfl,?_⟩)|(refine c2.call rfl ?_)|(refine c5.call rfl ?_)|(refine aP c16 rfl rfl rfl ?_)|(refine qy.call rfl ?_))
     exact bT (.lit (ld ⟨n,[],.mk Ae v_ Af Ag iW Ah iX⟩)) rfl
end
section
variable {l:List TP} {m e:Nat}
@[reducible] def JW (s:Sm):SV:= .agg (OL s.kind s.name s.Dw (rowOf 3 (s.gX.map jN)) (rowOf 1 (s.key.map SV.str)) s.uniq (rowOf 1 (s.names.map SV.str)) (rowOf 1 (s.rows.map CG)) (rowOf 11 (s.items.map sU)) (rowOf 11 (s.nO.map rC)) s.wh (rowOf 9 (s.group.map sV)) (rowOf 10 (s.order.map CD)) s.limit (rowOf 11 (s.sets.map CF)))
theorem cW(s:Sm):bJ (JW s):= .agg (pX rfl)
theorem dX{A:Heap}(s:Sm){gX key names rows items nO wa group order sets:SV}(h1:cq A gX (rowOf 3 (s.gX.map jN)))(h2:cq A key (rowOf 1 (s.key.map SV.str)))(h3:cq A names (rowOf 1 (s.names.map SV.str)))(h4:cq A rows (rowOf 1 (s.rows.map CG)))
  (h5:cq A items (rowOf 11 (s.items.map sU)))(h6:cq A nO (rowOf 11 (s.nO.map rC)))(h7:cq A wa (mT (iY s.wh.args)))(h8:cq A group (rowOf 9 (s.group.map sV)))(h9:cq A order (rowOf 10 (s.order.map CD)))(h10:cq A sets (rowOf 11 (s.sets.map CF))):
  cq A (.agg [.int .u8 s.kind,.str s.name,.str s.Dw,gX,key,.bool s.uniq,names,rows,items,nO,.int .u8 s.wh.op,.int .u8 s.wh.va.k,.int .i64 s.wh.va.i,.str s.wh.va.s,.str s.wh.tb,.str s.wh.nm,.int .i64 s.wh.slot,.int .u8 s.wh.kd,wa,group,order,.int .i64 s.limit,sets]) (JW s):=
 wP (.cons (.lit (.int _ _)) (.cons (.lit (.str _)) (.cons (.lit (.str _)) (.cons h1 (.cons h2 (.cons (.lit (.bool _)) (.cons h3 (.cons h4 (.cons h5 (.cons h6 (.cons (.lit (.int _ _)) (.cons (.lit (.int _ _)) (.cons (.lit (.int _ _)) (.cons (.lit (.str _)) (.cons (.lit (.str _)) (.cons (.lit (.str _)) (.cons (.lit (.int _ _)) (.cons (.lit (.int _ _)) (.cons h7 (.cons h8 (.cons h9 (.cons (.lit (.int _ _)) (.cons h10 .nil)))))))))))))))))))))))
@[reducible] def qL (l:List TP) (m:Nat) (r:aF Sm):cG:=match r with
  | .ok s _=> .ret (JW s)
  | .bad er j=> .bO (kX er (dF l m j))
theorem yZ(r:aF Sm):KC (qL l m r):=match r with
 | .ok s _=>cW s
 | .bad _ _=>ai _ _
theorem Ai(hl:l.length<=65536)(i:Nat)(hi:i<=l.length):cy Tryz.prog 85 [] (dx l i m 0) (qL l m (ql (aq l) (dP aH) (bD l) i)) (dx l (lA (ql (aq l) (dP aH) (bD l) i)) m 0):=by
 unfold ql;cases h1:cj (aq l) [100,101,108,101,116,101] i with
 |false=>
  have c3:=yU (m:=m) (e:=0) (t:=[102,114,111,109]) hl h1;rw[show aA (aq l) [100,101,108,101,116,101] i= .bad 240 i by unfold aA;rw[h1];rfl]
  try dsimp only[aF.then]
  refine⟨aO,ah ..,ah ..,ai ..,BB.call mixed rfl ?_⟩;iterate 30 all_goals ((try conv=>whnf);try first|(with_reducible first|refine zY ?_|refine zN ?_|refine zT ?_|refine br (fun _=> ?_) (fun _=> ?_)|refine⟨rfl,?_⟩)|(refine FJ c3 rfl rfl rfl fun h=> ?_))
  exact aW (ai _ _)
 |true=>
  have:=aI h1;rw[show aA (aq l) [100,101,108,101,116,101] i= .ok () (i+1) by unfold aA;rw[h1];rfl]
  try dsimp only[aF.then]
  cases h2:cj (aq l) [102,114,111,109] (i+1)with
  |false=>
   have c3:=yV (m:=m) (e:=0) hl h1 h2;rw[show aA (aq l) [102,114,111,109] (i+1)= .bad 240 (i+1) by unfold aA;rw[h2];rfl]
   try dsimp only[aF.then]
   refine⟨aO,ah ..,ah ..,ai ..,BB.call mixed rfl ?_⟩;iterate 30 all_goals ((try conv=>whnf);try first|(with_reducible first|refine zY ?_|refine zN ?_|refine zT ?_|refine br (fun _=> ?_) (fun _=> ?_)|refine⟨rfl,?_⟩)|(refine FJ c3 rfl rfl rfl fun h=> ?_))
   exact aW (ai _ _)
  |true=>
   have c3:=yW (m:=m) (e:=0) hl h1 h2;have:=aI h2;rw[show aA (aq l) [102,114,111,109] (i+1)= .ok () (i+2) by unfold aA;rw[h2];rfl]
   try dsimp only[aF.then]
   cases h4:de (aq l) (dP aH) (i+2)with
   |bad er j=>
    have c5:=cM (m:=m) (e:=0) hl h4
    try dsimp only[aF.then]
    refine⟨aO,ah ..,ah ..,ai ..,BB.call mixed rfl ?_⟩;iterate 44 all_goals ((try conv=>whnf);try first|(with_reducible first|refine zY ?_|refine zN ?_|refine zT ?_|refine br (fun _=> ?_) (fun _=> ?_)|refine⟨rfl,?_⟩)|(refine l6 c3 rfl rfl rfl ?_)|(refine c5.bO rfl fun h=> ?_))
    exact aW (ai _ _)
   |ok n j6=>
    have c5:=dz (m:=m) (e:=0) hl h4;have:=(cT _ _ _ (by omega) h4).2
    try dsimp only[aF.then]
    have Sw:=tS (m:=m) hl;cases h7:lX (aq l) (bD l) j6 with
    |bad er j=>
     have c8:=Sw.bad (by omega) h7
     try dsimp only[aF.then]
     refine⟨aO,ah ..,ah ..,ai ..,BB.call mixed rfl ?_⟩;iterate 58 all_goals ((try conv=>whnf);try first|(with_reducible first|refine zY ?_|refine zN ?_|refine zT ?_|refine br (fun _=> ?_) (fun _=> ?_)|refine⟨rfl,?_⟩)|(refine l6 c3 rfl rfl rfl ?_)|(refine c5.call rfl ?_)|(refine c8.bO rfl fun h=> ?_))
     exact aW (ai _ _)
    |ok w j9=>
     have c8:=Sw.ok (by omega) h7;have:=(tT _ _ _ (by omega) h7).2;obtain⟨Ae,v_,Af,Ag,iW,Ah,iX⟩:=w;rw[bt]at c8
     try dsimp only[aF.then]
     refine⟨aO,ah ..,ah ..,cW _,BB.call mixed rfl ?_⟩;iterate 72 all_goals ((try conv=>whnf);try first|(with_reducible first|refine zY ?_|refine zN ?_|refine zT ?_|refine br (fun _=> ?_) (fun _=> ?_)|refine⟨rfl,?_⟩)|(refine l6 c3 rfl rfl rfl ?_)|(refine c5.call rfl ?_)|(refine c8.call rfl ?_))
     exact bT (dX {kind:=4,name:=n,wh:= .mk Ae v_ Af Ag iW Ah iX} .nil .nil .nil .nil .nil .nil (.lit (gA _)) .nil .nil .nil) rfl
theorem Ck(hl:l.length<=65536)(i:Nat)(hi:i<=l.length):cy Tryz.prog 87 [] (dx l i m 0) (qL l m (tQ (aq l) l.length (dP aH) i)) (dx l (lA (tQ (aq l) l.length (dP aH) i)) m 0):=by
 unfold tQ;dsimp only;cases h1:cj (aq l) [117,110,105,113,117,101] i with
 |true=>
  have c2:=bG (m:=m) (e:=0) hl h1;have:=aI h1;rw[if_pos rfl]
  try dsimp only[aF.then]
  cases h3:cj (aq l) [105,110,100,101,120] (i+1)with
  |false=>
   have c4:=bh (m:=m) (e:=0) hl h3;rw[show aA (aq l) [105,110,100,101,120] (i+1)= .bad 240 (i+1) by unfold aA;rw[h3];rfl]
   try dsimp only[aF.then]
   refine⟨aO,ah ..,ah ..,ai ..,oB.call mixed rfl ?_⟩;iterate 44 all_goals ((try conv=>whnf);try first|(with_reducible first|refine zY ?_|refine zN ?_|refine zT ?_|refine br (fun _=> ?_) (fun _=> ?_)|refine⟨rfl,?_⟩)|(refine c2.call rfl ?_)|(refine dy c4 rfl rfl rfl fun h=> ?_))
   exact aW (ai _ _)
  |true=>
   have c4:=aS (m:=m) (e:=0) hl h3;have:=aI h3;rw[show aA (aq l) [105,110,100,101,120] (i+1)= .ok () (i+2) by unfold aA;rw[h3];rfl]
   try dsimp only[aF.then]
   cases h5:de (aq l) (dP aH) (i+2)with
   |bad er j=>
    have c6:=cM (m:=m) (e:=0) hl h5
    try dsimp only[aF.then]
    refine⟨aO,ah ..,ah ..,ai ..,oB.call mixed rfl ?_⟩;iterate 58 all_goals ((try conv=>whnf);try first|(with_reducible first|refine zY ?_|refine zN ?_|refine zT ?_|refine br (fun _=> ?_) (fun _=> ?_)|refine⟨rfl,?_⟩)|(refine c2.call rfl ?_)|(refine aP c4 rfl rfl rfl ?_)|(refine c6.bO rfl fun h=> ?_))
    exact aW (ai _ _)
   |ok n j7=>
    have c6:=dz (m:=m) (e:=0) hl h5;have:=(cT _ _ _ (by omega) h5).2
    try dsimp only[aF.then]
    cases h8:cj (aq l) [111,110] j7 with
    |false=>
     have c9:=bh (m:=m) (e:=0) hl h8;rw[show aA (aq l) [111,110] j7= .bad 240 j7 by unfold aA;rw[h8];rfl]
     try dsimp only[aF.then]
     refine⟨aO,ah ..,ah ..,ai ..,oB.call mixed rfl ?_⟩;iterate 72 all_goals ((try conv=>whnf);try first|(with_reducible first|refine zY ?_|refine zN ?_|refine zT ?_|refine br (fun _=> ?_) (fun _=> ?_)|refine⟨rfl,?_⟩)|(refine c2.call rfl ?_)|(refine aP c4 rfl rfl rfl ?_)|(refine c6.call rfl ?_)|(refine dy c9 rfl rfl rfl fun h=> ?_))
     exact aW (ai _ _)
    |true=>
     have c9:=aS (m:=m) (e:=0) hl h8;have:=aI h8;rw[show aA (aq l) [111,110] j7= .ok () (j7+1) by unfold aA;rw[h8];rfl]
     try dsimp only[aF.then]
     cases h10:de (aq l) (dP aH) (j7+1)with
     |bad er j=>
      have mh:=cM (m:=m) (e:=0) hl h10
      try dsimp only[aF.then]
      refine⟨aO,ah ..,ah ..,ai ..,oB.call mixed rfl ?_⟩;iterate 86 all_goals ((try conv=>whnf);try first|(with_reducible first|refine zY ?_|refine zN ?_|refine zT ?_|refine br (fun _=> ?_) (fun _=> ?_)|refine⟨rfl,?_⟩)|(refine c2.call rfl ?_)|(refine aP c4 rfl rfl rfl ?_)|(refine c6.call rfl ?_)|(refine aP c9 rfl rfl rfl ?_)|(refine mh.bO rfl fun h=> ?_))
      exact aW (ai _ _)
     |ok t VZ=>
      have mh:=dz (m:=m) (e:=0) hl h10;have:=(cT _ _ _ (by omega) h10).2
      try dsimp only[aF.then]
      have kf:=nJ (m:=m) (e:=0) hl 4 (by decide) VZ (by omega);cases Hl:iB (aq l) l.length (dP aH) 4 VZ with
      |bad er j=>
       rw[Hl]at kf;dsimp only[aF.then,lA]at kf
       try dsimp only[aF.then]
       refine⟨aO,ah ..,ah ..,ai ..,oB.call mixed rfl ?_⟩;iterate 100 all_goals ((try conv=>whnf);try first|(with_reducible first|refine zY ?_|refine zN ?_|refine zT ?_|refine br (fun _=> ?_) (fun _=> ?_)|refine⟨rfl,?_⟩)|(refine c2.call rfl ?_)|(refine aP c4 rfl rfl rfl ?_)|(refine c6.call rfl ?_)|(refine aP c9 rfl rfl rfl ?_)|(refine mh.call rfl ?_)|(refine kf.bO rfl fun h=> ?_))
       exact aW (ai _ _)
      |ok ns V0=>
       rw[Hl]at kf;have:=(nK _ _ _ (by omega) Hl).2;dsimp only[aF.then,lA]at kf
       try dsimp only[aF.then]
       refine⟨aO,ah ..,ah ..,cW _,oB.call mixed rfl ?_⟩;iterate 114 all_goals ((try conv=>whnf);try first|(with_reducible first|refine zY ?_|refine zN ?_|refine zT ?_|refine br (fun _=> ?_) (fun _=> ?_)|refine⟨rfl,?_⟩)|(refine c2.call rfl ?_)|(refine aP c4 rfl rfl rfl ?_)|(refine c6.call rfl ?_)|(refine aP c9 rfl rfl rfl ?_)|(refine mh.call rfl ?_)|(refine kf.call rfl ?_))
       exact bT (dX {kind:=6,name:=n,Dw:=t,uniq:=true,names:=ns} .nil .nil (.lit (bx _ _)) .nil .nil .nil .nil .nil .nil .nil) rfl
 |false=>
  have c2:=bU (m:=m) (e:=0) hl h1;rw[if_neg (by decide)]
  try dsimp only[aF.then]
  cases tV:cj (aq l) [105,110,100,101,120] i with
  |false=>
   have hG:=bh (m:=m) (e:=0) hl tV;rw[show aA (aq l) [105,110,100,101,120] i= .bad 240 i by unfold aA;rw[tV];rfl]
   try dsimp only[aF.then]
   refine⟨aO,ah ..,ah ..,ai ..,oB.call mixed rfl ?_⟩;iterate 44 all_goals ((try conv=>whnf);try first|(with_reducible first|refine zY ?_|refine zN ?_|refine zT ?_|refine br (fun _=> ?_) (fun _=> ?_)|refine⟨rfl,?_⟩)|(refine c2.call rfl ?_)|(refine dy hG rfl rfl rfl fun h=> ?_))
   exact aW (ai _ _)
  |true=>
   have hG:=aS (m:=m) (e:=0) hl tV;have:=aI tV;rw[show aA (aq l) [105,110,100,101,120] i= .ok () (i+1) by unfold aA;rw[tV];rfl]
   try dsimp only[aF.then]
   cases rI:de (aq l) (dP aH) (i+1)with
   |bad er j=>
    have rJ:=cM (m:=m) (e:=0) hl rI
    try dsimp only[aF.then]
    refine⟨aO,ah ..,ah ..,ai ..,oB.call mixed rfl ?_⟩;iterate 58 all_goals ((try conv=>whnf);try first|(with_reducible first|refine zY ?_|refine zN ?_|refine zT ?_|refine br (fun _=> ?_) (fun _=> ?_)|refine⟨rfl,?_⟩)|(refine c2.call rfl ?_)|(refine aP hG rfl rfl rfl ?_)|(refine rJ.bO rfl fun h=> ?_))
    exact aW (ai _ _)
   |ok n OS=>
    have rJ:=dz (m:=m) (e:=0) hl rI;have:=(cT _ _ _ (by omega) rI).2
    try dsimp only[aF.then]
    cases DW:cj (aq l) [111,110] OS with
    |false=>
     have kg:=bh (m:=m) (e:=0) hl DW;rw[show aA (aq l) [111,110] OS= .bad 240 OS by unfold aA;rw[DW];rfl]
     try dsimp only[aF.then]
     refine⟨aO,ah ..,ah ..,ai ..,oB.call mixed rfl ?_⟩;iterate 72 all_goals ((try conv=>whnf);try first|(with_reducible first|refine zY ?_|refine zN ?_|refine zT ?_|refine br (fun _=> ?_) (fun _=> ?_)|refine⟨rfl,?_⟩)|(refine c2.call rfl ?_)|(refine aP hG rfl rfl rfl ?_)|(refine rJ.call rfl ?_)|(refine dy kg rfl rfl rfl fun h=> ?_))
     exact aW (ai _ _)
    |true=>
     have kg:=aS (m:=m) (e:=0) hl DW;have:=aI DW;rw[show aA (aq l) [111,110] OS= .ok () (OS+1) by unfold aA;rw[DW];rfl]
     try dsimp only[aF.then]
     cases h23:de (aq l) (dP aH) (OS+1)with
     |bad er j=>
      have An:=cM (m:=m) (e:=0) hl h23
      try dsimp only[aF.then]
      refine⟨aO,ah ..,ah ..,ai ..,oB.call mixed rfl ?_⟩;iterate 86 all_goals ((try conv=>whnf);try first|(with_reducible first|refine zY ?_|refine zN ?_|refine zT ?_|refine br (fun _=> ?_) (fun _=> ?_)|refine⟨rfl,?_⟩)|(refine c2.call rfl ?_)|(refine aP hG rfl rfl rfl ?_)|(refine rJ.call rfl ?_)|(refine aP kg rfl rfl rfl ?_)|(refine An.bO rfl fun h=> ?_))
      exact aW (ai _ _)
     |ok t V1=>
      have An:=dz (m:=m) (e:=0) hl h23;have:=(cT _ _ _ (by omega) h23).2
      try dsimp only[aF.then]
      have Ao:=nJ (m:=m) (e:=0) hl 4 (by decide) V1 (by omega);cases xN:iB (aq l) l.length (dP aH) 4 V1 with
      |bad er j=>
       rw[xN]at Ao;dsimp only[aF.then,lA]at Ao
       try dsimp only[aF.then]
       refine⟨aO,ah ..,ah ..,ai ..,oB.call mixed rfl ?_⟩;iterate 100 all_goals ((try conv=>whnf);try first|(with_reducible first|refine zY ?_|refine zN ?_|refine zT ?_|refine br (fun _=> ?_) (fun _=> ?_)|refine⟨rfl,?_⟩)|(refine c2.call rfl ?_)|(refine aP hG rfl rfl rfl ?_)|(refine rJ.call rfl ?_)|(refine aP kg rfl rfl rfl ?_)|(refine An.call rfl ?_)|(refine Ao.bO rfl fun h=> ?_))
       exact aW (ai _ _)
      |ok ns Y7=>
       rw[xN]at Ao;have:=(nK _ _ _ (by omega) xN).2;dsimp only[aF.then,lA]at Ao
       try dsimp only[aF.then]
       refine⟨aO,ah ..,ah ..,cW _,oB.call mixed rfl ?_⟩;iterate 114 all_goals ((try conv=>whnf);try first|(with_reducible first|refine zY ?_|refine zN ?_|refine zT ?_|refine br (fun _=> ?_) (fun _=> ?_)|refine⟨rfl,?_⟩)|(refine c2.call rfl ?_)|(refine aP hG rfl rfl rfl ?_)|(refine rJ.call rfl ?_)|(refine aP kg rfl rfl rfl ?_)|(refine An.call rfl ?_)|(refine Ao.call rfl ?_))
       exact bT (dX {kind:=6,name:=n,Dw:=t,uniq:=false,names:=ns} .nil .nil (.lit (bx _ _)) .nil .nil .nil .nil .nil .nil .nil) rfl
theorem Aj(hl:l.length<=65536)(i:Nat)(hi:i<=l.length):cy Tryz.prog 84 [] (dx l i m 0) (qL l m (qk (aq l) l.length (dP aH) (bD l) i)) (dx l (lA (qk (aq l) l.length (dP aH) (bD l) i)) m 0):=by
 unfold qk;cases h1:cj (aq l) [117,112,100,97,116,101] i with
 |false=>
  have c2:=bh (m:=m) (e:=0) hl h1;rw[show aA (aq l) [117,112,100,97,116,101] i= .bad 240 i by unfold aA;rw[h1];rfl]
  try dsimp only[aF.then]
  refine⟨aO,ah ..,ah ..,ai ..,yF.call mixed rfl ?_⟩;iterate 30 all_goals ((try conv=>whnf);try first|(with_reducible first|refine zY ?_|refine zN ?_|refine zT ?_|refine br (fun _=> ?_) (fun _=> ?_)|refine⟨rfl,?_⟩)|(refine dy c2 rfl rfl rfl fun h=> ?_))
  exact aW (ai _ _)
 |true=>
  have c2:=aS (m:=m) (e:=0) hl h1;have:=aI h1;rw[show aA (aq l) [117,112,100,97,116,101] i= .ok () (i+1) by unfold aA;rw[h1];rfl]
  try dsimp only[aF.then]
  cases h3:de (aq l) (dP aH) (i+1)with
  |bad er j=>
   have c4:=cM (m:=m) (e:=0) hl h3
   try dsimp only[aF.then]
   refine⟨aO,ah ..,ah ..,ai ..,yF.call mixed rfl ?_⟩;iterate 44 all_goals ((try conv=>whnf);try first|(with_reducible first|refine zY ?_|refine zN ?_|refine zT ?_|refine br (fun _=> ?_) (fun _=> ?_)|refine⟨rfl,?_⟩)|(refine aP c2 rfl rfl rfl ?_)|(refine c4.bO rfl fun h=> ?_))
   exact aW (ai _ _)
  |ok n j5=>
   have c4:=dz (m:=m) (e:=0) hl h3;have:=(cT _ _ _ (by omega) h3).2
   try dsimp only[aF.then]
   cases h6:cj (aq l) [115,101,116] j5 with
   |false=>
    have c7:=bh (m:=m) (e:=0) hl h6;rw[show aA (aq l) [115,101,116] j5= .bad 240 j5 by unfold aA;rw[h6];rfl]
    try dsimp only[aF.then]
    refine⟨aO,ah ..,ah ..,ai ..,yF.call mixed rfl ?_⟩;iterate 58 all_goals ((try conv=>whnf);try first|(with_reducible first|refine zY ?_|refine zN ?_|refine zT ?_|refine br (fun _=> ?_) (fun _=> ?_)|refine⟨rfl,?_⟩)|(refine aP c2 rfl rfl rfl ?_)|(refine c4.call rfl ?_)|(refine dy c7 rfl rfl rfl fun h=> ?_))
    exact aW (ai _ _)
   |true=>
    have c7:=aS (m:=m) (e:=0) hl h6;have:=aI h6;rw[show aA (aq l) [115,101,116] j5= .ok () (j5+1) by unfold aA;rw[h6];rfl]
    try dsimp only[aF.then]
    have OT:=K5 (m:=m) (n:=n) hl;have OU:j5+1<=l.length:=by omega
    cases h8:cN (aq l) l.length (xL (aq l) (dP aH) (bD l)) 12 [] (j5+1)with
    |bad er j=>
     try dsimp only[aF.then]
     refine⟨aO,ah ..,ah ..,ai ..,yF.call mixed rfl ?_⟩;iterate 72 all_goals ((try conv=>whnf);try first|(with_reducible first|refine zY ?_|refine zN ?_|refine zT ?_|refine br (fun _=> ?_) (fun _=> ?_)|refine⟨rfl,?_⟩)|(refine aP c2 rfl rfl rfl ?_)|(refine c4.call rfl ?_)|(refine aP c7 rfl rfl rfl ?_)|(refine iu hl OT (by decide) OU h8 rfl rfl rfl rfl fun h=> ?_))
     exact aW (ai _ _)
    |ok sets j9=>
     have:=(gd FH _ _ _ _ _ (by omega) h8).2
     try dsimp only[aF.then]
     have Sy:=tS (m:=m) hl;cases h12:lX (aq l) (bD l) j9 with
     |bad er j=>
      have iV:=Sy.bad (by omega) h12
      try dsimp only[aF.then]
      refine⟨aO,ah ..,ah ..,ai ..,yF.call mixed rfl ?_⟩;iterate 86 all_goals ((try conv=>whnf);try first|(with_reducible first|refine zY ?_|refine zN ?_|refine zT ?_|refine br (fun _=> ?_) (fun _=> ?_)|refine⟨rfl,?_⟩)|(refine aP c2 rfl rfl rfl ?_)|(refine c4.call rfl ?_)|(refine aP c7 rfl rfl rfl ?_)|(refine cI hl OT (by decide) OU h8 rfl rfl rfl rfl ?_)|(refine iV.bO rfl fun h=> ?_))
      exact aW (ai _ _)
     |ok w Y8=>
      have iV:=Sy.ok (by omega) h12;have:=(tT _ _ _ (by omega) h12).2;obtain⟨Ae,v_,Af,Ag,iW,Ah,iX⟩:=w;rw[bt]at iV
      try dsimp only[aF.then]
      refine⟨aO,ah ..,ah ..,cW _,yF.call mixed rfl ?_⟩;iterate 100 all_goals ((try conv=>whnf);try first|(with_reducible first|refine zY ?_|refine zN ?_|refine zT ?_|refine br (fun _=> ?_) (fun _=> ?_)|refine⟨rfl,?_⟩)|(refine aP c2 rfl rfl rfl ?_)|(refine c4.call rfl ?_)|(refine aP c7 rfl rfl rfl ?_)|(refine cI hl OT (by decide) OU h8 rfl rfl rfl rfl ?_)|(refine iV.call rfl ?_))
      exact bT (dX {kind:=3,name:=n,sets:=sets,wh:= .mk Ae v_ Af Ag iW Ah iX} .nil .nil .nil .nil .nil .nil (.lit (gA _)) .nil .nil (.lit (bx _ _))) rfl
end
end Go.Proofs.YtbjifmbemdhndaaGreatDoor
