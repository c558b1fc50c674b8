/- Parts of the proof of PParserBlanks, one behind the other, with short names. -/
import Derived.Test.YtbjifmbemdhndaaGreatDoorZ38
set_option linter.unusedVariables false
set_option linter.unusedSimpArgs false
namespace Go.Proofs.YtbjifmbemdhndaaGreatDoor
open Ab Go.RowKit
set_option maxRecDepth 100000
set_option maxHeartbeats 4000000
attribute [local irreducible] bB cH
section
theorem l6{P:Program}{f:FuncId}{s t:List UInt8}{o o':aG}{v:SV}(hp:cy P f [qx [s,t]] o (.ret v) o'){i k n:Nat}{l:List (Nat×aG)}{sk:Sk}{R:cG->Heap->Prop}(ho:aV l i=some o)(hk:aV l k=some (.vec 0 1 [.str s,.str t] sk))(hik:Nat.beq i k=false)
  (hR:R (.ret v) ⟨n,cO (ia (fun j=>Nat.beq j k) l) i o'⟩):aZ P f [.ref i 0 0 0,.sl k 0 1 0 2 (some 2)] ⟨n,l⟩ R:=by
 refine aZ.KD (fun j=>Nat.beq j k) (.same (.iq (sC (s:=[s,t]) (g:=0) (sk:=sk) ?_ rfl) .nil)) (hp.call ?_ hR)
 ·show aV (ou _ l) k=_
  rw[n7,if_pos (Nat.beq_refl k)];exact hk
 ·rw[ic,if_neg (by rw[hik];decide)]
  exact ho
theorem FJ{P:Program}{f:FuncId}{s t:List UInt8}{o o':aG}{v:SV}(hp:cy P f [qx [s,t]] o (.bO v) o'){i k n:Nat}{l:List (Nat×aG)}{sk:Sk}{R:cG->Heap->Prop}(ho:aV l i=some o)(hk:aV l k=some (.vec 0 1 [.str s,.str t] sk))(hik:Nat.beq i k=false)
  (hR: ∀h',R (.bO v) h'):aZ P f [.ref i 0 0 0,.sl k 0 1 0 2 (some 2)] ⟨n,l⟩ R:=by
 refine aZ.KD (fun j=>Nat.beq j k) (.same (.iq (sC (s:=[s,t]) (g:=0) (sk:=sk) ?_ rfl) .nil)) (hp.bO ?_ hR)
 ·show aV (ou _ l) k=_
  rw[n7,if_pos (Nat.beq_refl k)];exact hk
 ·rw[ic,if_neg (by rw[hik];decide)]
  exact ho
variable {l:List TP} {m e:Nat}
theorem yU(hl:l.length<=65536){s t:List UInt8}{i:Nat}(h:cj (aq l) s i=false):cy Tryz.prog 131 [qx [s,t]] (dx l i m e) (.bO (kX 240 (dF l m i))) (dx l i m e):=by
 have cg:=bU (m:=m) (e:=e) hl h;have cw:=bM (l:=l) (m:=m) (e:=e) 240 i;refine⟨cZ (.dm ..),ah ..,ah ..,ai ..,tI.call mixed rfl ?_⟩;iterate 30 all_goals ((try conv=>whnf);try first|(with_reducible first|refine zY ?_|refine zN ?_|refine zT ?_|refine br (fun _=> ?_) (fun _=> ?_)|refine⟨rfl,?_⟩|refine gu.succ ?_)|(refine cg.call rfl ?_)|(refine cw.bO rfl fun h=> ?_)|with_reducible refine fS 4 ?_)
 exact aW (ai _ _)
theorem yV(hl:l.length<=65536){s t:List UInt8}{i:Nat}(h:cj (aq l) s i=true)(h2:cj (aq l) t (i+1)=false):cy Tryz.prog 131 [qx [s,t]] (dx l i m e) (.bO (kX 240 (dF l m (i+1)))) (dx l (i+1) m e):=by
 have cg:=bG (m:=m) (e:=e) hl h;have xM:=bU (m:=m) (e:=e) hl h2;have cw:=bM (l:=l) (m:=m) (e:=e) 240 (i+1);refine⟨cZ (.dm ..),ah ..,ah ..,ai ..,tI.call mixed rfl ?_⟩;iterate 40 all_goals ((try conv=>whnf);try first|(with_reducible first|refine zY ?_|refine zN ?_|refine zT ?_|refine br (fun _=> ?_) (fun _=> ?_)|refine⟨rfl,?_⟩|refine gu.succ ?_)|(refine cg.call rfl ?_)|(refine xM.call rfl ?_)|(refine cw.bO rfl fun h=> ?_)|with_reducible refine fS 4 ?_)
 exact aW (ai _ _)
theorem yW(hl:l.length<=65536){s t:List UInt8}{i:Nat}(h:cj (aq l) s i=true)(h2:cj (aq l) t (i+1)=true):cy Tryz.prog 131 [qx [s,t]] (dx l i m e) (.ret (.bn [])) (dx l (i+2) m e):=by
 have cg:=bG (m:=m) (e:=e) hl h;have xM:=bG (m:=m) (e:=e) hl h2;refine⟨cZ (.dm ..),ah ..,ah ..,.bn (by simp),tI.call mixed rfl ?_⟩;iterate 40 all_goals ((try conv=>whnf);try first|(with_reducible first|refine zY ?_|refine zN ?_|refine zT ?_|refine br (fun _=> ?_) (fun _=> ?_)|refine⟨rfl,?_⟩|refine gu.succ ?_)|(refine cg.call rfl ?_)|(refine xM.call rfl ?_)|with_reducible refine fS 4 ?_)
 exact bT (.lit (.bn (by simp))) rfl
theorem Jv{A:Heap}:cq A (.agg [.int .u8 0,.int .u8 0,.int .i64 0,.str [],.str [],.str [],.int .i64 0,.int .u8 0,.ak]) (uD kQ):=sA pW
theorem tS(hl:l.length<=65536):sD l m 0 136 (lX (aq l) (bD l)):=by
 intro i hi;unfold lX;cases h1:cj (aq l) [119,104,101,114,101] i with
 |false=>
  have cg:=bU (m:=m) (e:=0) hl h1;rw[if_neg (by decide)];refine⟨aO,ah ..,ah ..,aD _,zG.call mixed rfl ?_⟩;iterate 20 all_goals ((try conv=>whnf);try first|(with_reducible first|refine zY ?_|refine zN ?_|refine zT ?_|refine br (fun _=> ?_) (fun _=> ?_)|refine⟨rfl,?_⟩)|(refine cg.call rfl ?_))
  exact bT Jv rfl
 |true=>
  have cg:=bG (m:=m) (e:=0) hl h1;rw[if_pos rfl];have hX:=fL (m:=m) hl;cases hf:bD l (i+1)with
  |bad er j=>
   have c:=hX.bad (aI h1) hf;refine⟨aO,ah ..,ah ..,ai ..,zG.call mixed rfl ?_⟩;iterate 20 all_goals ((try conv=>whnf);try first|(with_reducible first|refine zY ?_|refine zN ?_|refine zT ?_|refine br (fun _=> ?_) (fun _=> ?_)|refine⟨rfl,?_⟩)|(refine cg.call rfl ?_)|(refine c.bO rfl fun h=> ?_))
   exact aW (ai _ _)
  |ok x j=>
   have c:=hX.ok (aI h1) hf;obtain⟨op,v,tb,nm,slot,kd,args⟩:=x;rw[bt]at c;refine⟨aO,ah ..,ah ..,aD _,zG.call mixed rfl ?_⟩;iterate 20 all_goals ((try conv=>whnf);try first|(with_reducible first|refine zY ?_|refine zN ?_|refine zT ?_|refine br (fun _=> ?_) (fun _=> ?_)|refine⟨rfl,?_⟩)|(refine cg.call rfl ?_)|(refine c.call rfl ?_))
   exact bT (.lit (aD (.mk op v tb nm slot kd args))) rfl
theorem tT:oN l.length (lX (aq l) (bD l)):=fun i x j hi h=>by
 unfold lX at h;split at h
 ·rename_i hb
  have a:=eO (i+1) x j (aI hb) h;omega
 ·cases h;omega
theorem wP{A:Heap}{l l':List SV}(h:nC A l l'):cq A (.agg l) (.agg l'):= .agg h.len fun i u u' a b=>by
 obtain⟨w,hw,hh⟩:=h.at_ b;rw[a]at hw;cases hw
 exact hh
@[reducible] def MA (l:List TP) (m:Nat) (r:aF Src):cG:=match r with
  | .ok s _=> .ret (rC s)
  | .bad er j=> .bO (kX er (dF l m j))
theorem yX{A:Heap}{t n:List UInt8}:cq A (.agg [.str t,.str n,.int .u8 0,.int .u8 0,.int .i64 0,.str [],.str [],.str [],.int .i64 0,.int .u8 0,.ak]) (rC ⟨t,n,kQ⟩):=
 wP (.cons (.lit (.str _)) (.cons (.lit (.str _)) (.cons (.lit (.int _ _)) (.cons (.lit (.int _ _)) (.cons (.lit (.int _ _)) (.cons (.lit (.str _)) (.cons (.lit (.str _)) (.cons (.lit (.str _)) (.cons (.lit (.int _ _)) (.cons (.lit (.int _ _)) (.cons .nil .nil)))))))))))
theorem wQ{vl:Bool}:oN l.length (gO (aq l) (dP aH) (bD l) vl):=fun i x j hi h=>by
 unfold gO at h;obtain⟨t,k,h1,h2⟩:=then_ok h;have a:=cT i t k hi h1;obtain⟨n,q,h3,h4⟩:=then_ok h2;have b:=Jt k n q a.2 h3;split at h4
 ·obtain⟨_,p,h5,h6⟩:=then_ok h4
  have c:=gB q _ p b.2 h5;obtain⟨y,r,h7,h8⟩:=then_ok h6;have d:=eO p y r c.2 h7;cases h8
  omega
 ·cases h4;omega
theorem gd{α:Type}{one:Nat->aF α}{n:Nat}(hp:oN l.length one): ∀(f:Nat) (acc:List α),oN l.length (cN (aq l) n one f acc)
 |0,acc,i,y,j,hi,h=>by rw[cN]at h;cases h
 |f+1,acc,i,y,j,hi,h=>by
  rw[cN]at h;obtain⟨z,k,h1,h2⟩:=then_ok h;have a:=hp i z k hi h1;split at h2
  ·rename_i hb
   have:=aI hb;have b:=gd hp f _ (k+1) y j (by omega) h2;omega
  ·cases h2
   omega
theorem nK{most:Nat}:oN l.length (iB (aq l) l.length (dP aH) most):=fun i x j hi h=>by
 unfold iB at h;obtain⟨_,k,h1,h2⟩:=then_ok h;have a:=gB i _ k hi h1;obtain⟨ns,q,h3,h4⟩:=then_ok h2;have b:=gd cT most [] k ns q a.2 h3;obtain⟨_,p,h5,h6⟩:=then_ok h4;have c:=gB q _ p b.2 h5;cases h6
 omega
theorem Ac:oN l.length (wN (aq l) l.length (bD l)):=fun i x j hi h=>by
 unfold wN at h;obtain⟨_,k,h1,h2⟩:=then_ok h;have a:=gB i _ k hi h1;obtain⟨ns,q,h3,h4⟩:=then_ok h2;have b:=gd eO 12 [] k ns q a.2 h3;obtain⟨_,p,h5,h6⟩:=then_ok h4;have c:=gB q _ p b.2 h5;cases h6
 omega
end
end Go.Proofs.YtbjifmbemdhndaaGreatDoor
