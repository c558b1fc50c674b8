/- Parts of the proof of PParserBlanks, one behind the other, with short names. -/
import Derived.Test.YtbjifmbemdhndaaGreatDoorZ26
import Derived.Test.YtbjifmbemdhndaaGreatDoorZ29
set_option linter.unusedVariables false
set_option linter.unusedSimpArgs false
namespace Go.Proofs.YtbjifmbemdhndaaGreatDoor
open Ab Go.RowKit
set_option maxRecDepth 100000
set_option maxHeartbeats 4000000
attribute [local irreducible] bB cH
section
variable {l:List TP} {m e:Nat}
theorem aI{s:List UInt8}{i:Nat}(h:cj (aq l) s i=true):i<l.length:=by
 refine Classical.byContradiction fun hn=> ?_
 unfold cj aq at h;rw[zQ hn]at h;simp[aC]at h
theorem Fx(hl:l.length<=65536)(s:List UInt8)(i:Nat):cy Tryz.prog 30 [.str s] (dx l i m e) (.ret (.bool (cj (aq l) s i))) (dx l (if cj (aq l) s i then i+1 else i) m e):=by
 refine⟨cZ (.str _),ah ..,ah ..,.bool _,L3.call mixed rfl ?_⟩;have c:=gW (l:=l) (m:=m) (e:=e) s i;cases hb:cj (aq l) s i
 ·rw[hb]at c
  iterate 12 all_goals ((try conv=>whnf);try first|(with_reducible first|refine zY ?_|refine zN ?_|refine zT ?_|refine br (fun _=> ?_) (fun _=> ?_)|refine⟨rfl,?_⟩)|(refine c.call rfl ?_))
  exact bT (.lit (.bool _)) rfl
 ·have hi:=aI hb
  have e7:IntKind.i64.wrap ((i:Int)+1)=((i+1:Nat):Int):=bN (by omega);rw[hb]at c;iterate 12 all_goals ((try conv=>whnf);try first|(with_reducible first|refine zY ?_|refine zN ?_|refine zT ?_|refine br (fun _=> ?_) (fun _=> ?_)|refine⟨rfl,?_⟩)|(refine c.call rfl ?_))
  exact bT (.lit (.bool _)) (by rw[e7];rfl)
theorem bG(hl:l.length<=65536){s:List UInt8}{i:Nat}(h:cj (aq l) s i=true):cy Tryz.prog 30 [.str s] (dx l i m e) (.ret (.bool true)) (dx l (i+1) m e):=by
 have:=Fx (m:=m) (e:=e) hl s i;rw[h]at this;exact this
theorem bU(hl:l.length<=65536){s:List UInt8}{i:Nat}(h:cj (aq l) s i=false):cy Tryz.prog 30 [.str s] (dx l i m e) (.ret (.bool false)) (dx l i m e):=by
 have:=Fx (m:=m) (e:=e) hl s i;rw[h]at this;exact this
@[reducible] def DM (l:List TP) (m:Nat) (r:aF Ex):cG:=match r with
  | .ok x _=> .ret (uD x)
  | .bad er j=> .bO (kX er (dF l m j))
def lA{α:Type}(r:aF α):Nat:=match r with
 | .ok _ j=>j
 | .bad _ j=>j
theorem yK(hl:l.length<=65536)(s:List UInt8)(i:Nat):cy Tryz.prog 131 [qx [s]] (dx l i m e)
  (match aA (aq l) s i with| .ok _ _=> .ret (.bn [])| .bad er j=> .bO (kX er (dF l m j))) (dx l (lA (aA (aq l) s i)) m e):=by
 unfold aA;cases hb:cj (aq l) s i
 ·have cg:=bU (m:=m) (e:=e) hl hb
  have cw:=bM (l:=l) (m:=m) (e:=e) 240 i;refine⟨cZ (.dm ..),ah ..,ah ..,ai ..,tI.call mixed rfl ?_⟩;iterate 30 all_goals ((try conv=>whnf);try first|(with_reducible first|refine zY ?_|refine zN ?_|refine zT ?_|refine br (fun _=> ?_) (fun _=> ?_)|refine⟨rfl,?_⟩|refine gu.succ ?_)|(refine cg.call rfl ?_)|(refine cw.bO rfl fun h=> ?_)|with_reducible refine fS 3 ?_)
  exact aW (ai _ _)
 ·have cg:=bG (m:=m) (e:=e) hl hb
  refine⟨cZ (.dm ..),ah ..,ah ..,.bn (by simp),tI.call mixed rfl ?_⟩;iterate 30 all_goals ((try conv=>whnf);try first|(with_reducible first|refine zY ?_|refine zN ?_|refine zT ?_|refine br (fun _=> ?_) (fun _=> ?_)|refine⟨rfl,?_⟩|refine gu.succ ?_)|(refine cg.call rfl ?_)|with_reducible refine fS 3 ?_)
  exact bT (.lit (.bn (by simp))) rfl
theorem bS{i:Nat}{k:Int}(h:((l.getD i aC).1.k==k)=true)(hk:k≠0):i<l.length:=by
 refine Classical.byContradiction fun hn=> ?_
 rw[zQ hn]at h;simp[aC]at h;omega
theorem BQ(hl:l.length<=65536)(i:Nat):cy Tryz.prog 88 [] (dx l i m e)
  (match de (aq l) (dP aH) i with| .ok s _=> .ret (.str s)| .bad er j=> .bO (kX er (dF l m j))) (dx l (lA (de (aq l) (dP aH) i)) m e):=by
 have c:=eS (l:=l) (m:=m) (e:=e) i;have cw:=bM (l:=l) (m:=m) (e:=e) 240 i;have cr:=xG (l.getD i aC).1.t;unfold de;cases hk:((l.getD i aC).1.k==1)with
 |false=>
  have hn:((l.getD i aC).1.k !=1)=true:=by unfold bne;rw[hk];rfl
  rw[Bool.false_and,if_neg (by decide)];refine⟨aO,ah ..,ah ..,ai ..,Fs.call mixed rfl ?_⟩;iterate 20 all_goals ((try conv=>whnf);try first|(with_reducible first|refine zY ?_|refine zN ?_|refine zT ?_|refine br (fun _=> ?_) (fun _=> ?_)|refine⟨rfl,?_⟩|refine aj.call (cr) ?_)|(refine c.call rfl ?_)|(refine cw.bO rfl fun h=> ?_))
  exact aW (ai _ _)
 |true=>
  have hn:((l.getD i aC).1.k !=1)=false:=by unfold bne;rw[hk];rfl
  have hi:=bS hk (by decide);have e7:IntKind.i64.wrap ((i:Int)+1)=((i+1:Nat):Int):=bN (by omega);rw[Bool.true_and];cases hr:dP aH (l.getD i aC).1.t with
  |true=>
   rw[hr]at cr;rw[Bool.not_true,if_neg (by decide)];refine⟨aO,ah ..,ah ..,ai ..,Fs.call mixed rfl ?_⟩;iterate 20 all_goals ((try conv=>whnf);try first|(with_reducible first|refine zY ?_|refine zN ?_|refine zT ?_|refine br (fun _=> ?_) (fun _=> ?_)|refine⟨rfl,?_⟩|refine aj.call (cr) ?_)|(refine c.call rfl ?_)|(refine cw.bO rfl fun h=> ?_))
   exact aW (ai _ _)
  |false=>
   rw[hr]at cr;rw[Bool.not_false,if_pos rfl];refine⟨aO,ah ..,ah ..,.str _,Fs.call mixed rfl ?_⟩;iterate 20 all_goals ((try conv=>whnf);try first|(with_reducible first|refine zY ?_|refine zN ?_|refine zT ?_|refine br (fun _=> ?_) (fun _=> ?_)|refine⟨rfl,?_⟩|refine aj.call (cr) ?_)|(refine c.call rfl ?_)|(refine cw.bO rfl fun h=> ?_))
   exact bT (.lit (.str _)) (by rw[e7];rfl)
end
section
theorem aP{P:Program}{f:FuncId}{s:List UInt8}{o o':aG}{v:SV}(hp:cy P f [qx [s]] o (.ret v) o'){i k n:Nat}{l:List (Nat×aG)}{sk:Sk}{R:cG->Heap->Prop}(ho:aV l i=some o)(hk:aV l k=some (.vec 0 1 [.str s] sk))(hik:Nat.beq i k=false)
  (hR:R (.ret v) ⟨n,cO (ia (fun j=>Nat.beq j k) l) i o'⟩):aZ P f [.ref i 0 0 0,.sl k 0 1 0 1 (some 1)] ⟨n,l⟩ R:=by
 refine aZ.KD (fun j=>Nat.beq j k) (.same (.iq (sC (s:=[s]) (g:=0) (sk:=sk) ?_ rfl) .nil)) (hp.call ?_ hR)
 ·show aV (ou _ l) k=_
  rw[n7,if_pos (Nat.beq_refl k)];exact hk
 ·rw[ic,if_neg (by rw[hik];decide)]
  exact ho
theorem dy{P:Program}{f:FuncId}{s:List UInt8}{o o':aG}{v:SV}(hp:cy P f [qx [s]] o (.bO v) o'){i k n:Nat}{l:List (Nat×aG)}{sk:Sk}{R:cG->Heap->Prop}(ho:aV l i=some o)(hk:aV l k=some (.vec 0 1 [.str s] sk))(hik:Nat.beq i k=false)
  (hR: ∀h',R (.bO v) h'):aZ P f [.ref i 0 0 0,.sl k 0 1 0 1 (some 1)] ⟨n,l⟩ R:=by
 refine aZ.KD (fun j=>Nat.beq j k) (.same (.iq (sC (s:=[s]) (g:=0) (sk:=sk) ?_ rfl) .nil)) (hp.bO ?_ hR)
 ·show aV (ou _ l) k=_
  rw[n7,if_pos (Nat.beq_refl k)];exact hk
 ·rw[ic,if_neg (by rw[hik];decide)]
  exact ho
variable {l:List TP} {m e:Nat}
theorem aS(hl:l.length<=65536){s:List UInt8}{i:Nat}(h:cj (aq l) s i=true):cy Tryz.prog 131 [qx [s]] (dx l i m e) (.ret (.bn [])) (dx l (i+1) m e):=by
 have:=yK (m:=m) (e:=e) hl s i;unfold aA at this;rw[h,if_pos rfl]at this;exact this
theorem bh(hl:l.length<=65536){s:List UInt8}{i:Nat}(h:cj (aq l) s i=false):cy Tryz.prog 131 [qx [s]] (dx l i m e) (.bO (kX 240 (dF l m i))) (dx l i m e):=by
 have:=yK (m:=m) (e:=e) hl s i;unfold aA at this;rw[h,if_neg (by decide)]at this;exact this
def sD(l:List TP)(m e:Nat)(fn:FuncId)(f:Nat->aF Ex):Prop:= ∀i,i<=l.length->cy Tryz.prog fn [] (dx l i m e) (DM l m (f i)) (dx l (lA (f i)) m e)
theorem qf(v:Va):aj Tryz.prog 249 [.agg [.int .u8 v.k,.int .i64 v.i,.str v.s]] (uD (pV v)):=by
 refine bQ (cZ (.agg (by simp only[List.mem_cons,List.not_mem_nil,or_false];rintro _ (rfl|rfl|rfl)<;>constructor))) (IS.call mixed rfl ?_);iterate 6 all_goals ((try conv=>whnf);try first|(with_reducible first|refine zY ?_|refine zN ?_|refine zT ?_|refine br (fun _=> ?_) (fun _=> ?_)|refine⟨rfl,?_⟩))
 exact⟨_,rfl,sA pW⟩
theorem dz(hl:l.length<=65536){s:List UInt8}{i j:Nat}(h:de (aq l) (dP aH) i= .ok s j):cy Tryz.prog 88 [] (dx l i m e) (.ret (.str s)) (dx l j m e):=by
 have:=BQ (m:=m) (e:=e) hl i;rw[h]at this;exact this
theorem cM(hl:l.length<=65536){er:Int}{i j:Nat}(h:de (aq l) (dP aH) i= .bad er j):cy Tryz.prog 88 [] (dx l i m e) (.bO (kX er (dF l m j))) (dx l j m e):=by
 have:=BQ (m:=m) (e:=e) hl i;rw[h]at this;exact this
theorem ry(hl:l.length<=65536):sD l m e 138 (rm (aq l) (dP aH)):=by
 intro i hi;unfold rm;cases hn:de (aq l) (dP aH) i with
 |bad er j=>
  have c:=cM (m:=m) (e:=e) hl hn;refine⟨aO,ah ..,ah ..,ai ..,wA.call mixed rfl ?_⟩;iterate 20 all_goals ((try conv=>whnf);try first|(with_reducible first|refine zY ?_|refine zN ?_|refine zT ?_|refine br (fun _=> ?_) (fun _=> ?_)|refine⟨rfl,?_⟩)|(refine c.bO rfl fun h=> ?_))
  exact aW (ai _ _)
 |ok s j=>
  have c:=dz (m:=m) (e:=e) hl hn;dsimp only[aF.then];cases hd:cj (aq l) [46] j with
  |false=>
   have cg:=bU (m:=m) (e:=e) hl hd;refine⟨aO,ah ..,ah ..,aD _,wA.call mixed rfl ?_⟩;iterate 20 all_goals ((try conv=>whnf);try first|(with_reducible first|refine zY ?_|refine zN ?_|refine zT ?_|refine br (fun _=> ?_) (fun _=> ?_)|refine⟨rfl,?_⟩)|(refine c.call rfl ?_)|(refine cg.call rfl ?_))
   exact bT (sA pW:cq _ _ (uD (KE [] s))) rfl
  |true=>
   have cg:=bG (m:=m) (e:=e) hl hd;cases hn2:de (aq l) (dP aH) (j+1)with
   |bad er k=>
    have c2:=cM (m:=m) (e:=e) hl hn2;refine⟨aO,ah ..,ah ..,ai ..,wA.call mixed rfl ?_⟩;iterate 20 all_goals ((try conv=>whnf);try first|(with_reducible first|refine zY ?_|refine zN ?_|refine zT ?_|refine br (fun _=> ?_) (fun _=> ?_)|refine⟨rfl,?_⟩)|(refine c.call rfl ?_)|(refine cg.call rfl ?_)|(refine c2.bO rfl fun h=> ?_))
    exact aW (ai _ _)
   |ok t k=>
    have c2:=dz (m:=m) (e:=e) hl hn2;refine⟨aO,ah ..,ah ..,aD _,wA.call mixed rfl ?_⟩;iterate 20 all_goals ((try conv=>whnf);try first|(with_reducible first|refine zY ?_|refine zN ?_|refine zT ?_|refine br (fun _=> ?_) (fun _=> ?_)|refine⟨rfl,?_⟩)|(refine c.call rfl ?_)|(refine cg.call rfl ?_)|(refine c2.call rfl ?_))
    exact bT (sA pW:cq _ _ (uD (KE s t))) rfl
end
section
variable {l:List TP} {m e:Nat}
theorem bt(op:Int)(v:Va)(tb nm:List UInt8)(slot kd:Int)(args:List Ex):uD (.mk op v tb nm slot kd args)= .agg [.int .u8 op,.int .u8 v.k,.int .i64 v.i,.str v.s,.str tb,.str nm,.int .i64 slot,.int .u8 kd,mT (iY args)]:=by rw[uD]
theorem sD.ok{fn:FuncId}{f:Nat->aF Ex}(h:sD l m e fn f){i:Nat}(hi:i<=l.length){x:Ex}{j:Nat}(hf:f i= .ok x j):cy Tryz.prog fn [] (dx l i m e) (.ret (uD x)) (dx l j m e):=by
 have:=h i hi;rw[hf]at this;exact this
theorem sD.bad{fn:FuncId}{f:Nat->aF Ex}(h:sD l m e fn f){i:Nat}(hi:i<=l.length){er:Int}{j:Nat}(hf:f i= .bad er j):cy Tryz.prog fn [] (dx l i m e) (.bO (kX er (dF l m j))) (dx l j m e):=by
 have:=h i hi;rw[hf]at this;exact this
theorem KM(hl:l.length<=65536)(he:e<=40){dn:Option Lv}(h0:dn=none->e=40)(h1: ∀L,dn=some L->e<40/\sD l m (e+1) 120 L.uW)
  {OC:Nat->aF Ex}(hc:sD l m e 166 OC):sD l m e 120 (GD (aq l) dn OC):=by
 intro i hi;unfold GD;have ci:=gW (l:=l) (m:=m) (e:=e) [110,111,116] i;cases hb:cj (aq l) [110,111,116] i with
 |false=>
  rw[hb]at ci;rw[if_neg (by decide)];cases hf:OC i with
  |bad er j=>
   have c:=hc.bad hi hf;refine⟨aO,ah ..,ah ..,ai ..,tH.call mixed rfl ?_⟩;iterate 20 all_goals ((try conv=>whnf);try first|(with_reducible first|refine zY ?_|refine zN ?_|refine zT ?_|refine br (fun _=> ?_) (fun _=> ?_)|refine⟨rfl,?_⟩)|(refine ci.call rfl ?_)|(refine c.bO rfl fun h=> ?_))
   exact aW (ai _ _)
  |ok x j=>
   have c:=hc.ok hi hf;obtain⟨op,v,tb,nm,slot,kd,args⟩:=x;rw[bt]at c;refine⟨aO,ah ..,ah ..,aD _,tH.call mixed rfl ?_⟩;iterate 20 all_goals ((try conv=>whnf);try first|(with_reducible first|refine zY ?_|refine zN ?_|refine zT ?_|refine br (fun _=> ?_) (fun _=> ?_)|refine⟨rfl,?_⟩)|(refine ci.call rfl ?_)|(refine c.call rfl ?_))
   exact bT (.lit (aD (.mk op v tb nm slot kd args))) rfl
 |true=>
  rw[hb]at ci;rw[if_pos rfl];have hlt:=aI hb;unfold kH;cases hdn:dn with
  |none=>
   have hq:((e:Int)==40)=true:=by rw[h0 hdn];rfl
   have c:=bM (l:=l) (m:=m) (e:=e) 241 i;refine⟨aO,ah ..,ah ..,ai ..,tH.call mixed rfl ?_⟩;iterate 20 all_goals ((try conv=>whnf);try first|(with_reducible first|refine zY ?_|refine zN ?_|refine zT ?_|refine br (fun _=> ?_) (fun _=> ?_)|refine⟨rfl,?_⟩)|(refine ci.call rfl ?_)|(refine c.bO rfl fun h=> ?_)|(refine ec.call mixed rfl ?_))
   exact aW (ai _ _)
  |some L=>
   obtain⟨hlt2,hn⟩:=h1 L hdn;have hq:((e:Int)==40)=false:=by rw[beq_eq_false_iff_ne];omega
   have e7:IntKind.i64.wrap ((i:Int)+1)=((i+1:Nat):Int):=bN (by omega);have e8:IntKind.i64.wrap ((e:Int)+1)=((e+1:Nat):Int):=bN (by omega);have e9:IntKind.i64.wrap (((e+1:Nat):Int)-1)=(e:Int):=by rw[w8 (by omega) (by omega)];omega
   dsimp only;cases hf:L.uW (i+1)with
   |bad er j=>
    have c:=hn.bad hlt hf;refine⟨aO,ah ..,ah ..,ai ..,tH.call mixed rfl ?_⟩;iterate 40 all_goals ((try conv=>whnf);try first|(with_reducible first|refine zY ?_|refine zN ?_|refine zT ?_|refine br (fun _=> ?_) (fun _=> ?_)|refine⟨rfl,?_⟩)|(refine ci.call rfl ?_)|(refine c.bO (by rw[e7,e8];rfl) fun h=> ?_)|(refine ec.call mixed rfl ?_)|(refine Dz.call mixed rfl ?_))
    exact aW (ai _ _)
   |ok x j=>
    have c:=hn.ok hlt hf;obtain⟨op,v,tb,nm,slot,kd,args⟩:=x;rw[bt]at c;refine⟨aO,ah ..,ah ..,aD _,tH.call mixed rfl ?_⟩;iterate 40 all_goals ((try conv=>whnf);try first|(with_reducible first|refine zY ?_|refine zN ?_|refine zT ?_|refine br (fun _=> ?_) (fun _=> ?_)|refine⟨rfl,?_⟩)|(refine ci.call rfl ?_)|(refine c.call (by rw[e7,e8];rfl) ?_)|(refine ec.call mixed rfl ?_)|(refine Dz.call mixed rfl ?_))
    exact bT (cS (qe rfl (.lit (aD (.mk op v tb nm slot kd args))))) (by rw[e9];rfl)
end
section
variable {l:List TP} {m e:Nat}
theorem GK(hl:l.length<=65536)(he:e<=40){dn:Option Lv}(h0:dn=none->e=40)(h1: ∀L,dn=some L->e<40/\sD l m (e+1) 240 L.unary)
  {I7:Nat->aF Ex}(hc:sD l m e 248 I7):sD l m e 240 (tK (aq l) dn I7):=by
 intro i hi;unfold tK;have ci:=gW (l:=l) (m:=m) (e:=e) [45] i;cases hb:cj (aq l) [45] i with
 |false=>
  rw[hb]at ci;rw[if_neg (by decide)];cases hf:I7 i with
  |bad er j=>
   have c:=hc.bad hi hf;refine⟨aO,ah ..,ah ..,ai ..,ri.call mixed rfl ?_⟩;iterate 20 all_goals ((try conv=>whnf);try first|(with_reducible first|refine zY ?_|refine zN ?_|refine zT ?_|refine br (fun _=> ?_) (fun _=> ?_)|refine⟨rfl,?_⟩)|(refine ci.call rfl ?_)|(refine c.bO rfl fun h=> ?_))
   exact aW (ai _ _)
  |ok x j=>
   have c:=hc.ok hi hf;obtain⟨op,v,tb,nm,slot,kd,args⟩:=x;rw[bt]at c;refine⟨aO,ah ..,ah ..,aD _,ri.call mixed rfl ?_⟩;iterate 20 all_goals ((try conv=>whnf);try first|(with_reducible first|refine zY ?_|refine zN ?_|refine zT ?_|refine br (fun _=> ?_) (fun _=> ?_)|refine⟨rfl,?_⟩)|(refine ci.call rfl ?_)|(refine c.call rfl ?_))
   exact bT (.lit (aD (.mk op v tb nm slot kd args))) rfl
 |true=>
  rw[hb]at ci;rw[if_pos rfl];have hlt:=aI hb;have e7:IntKind.i64.wrap ((i:Int)+1)=((i+1:Nat):Int):=bN (by omega);have VV:IntKind.i64.wrap ((i:Int)+2)=((i+2:Nat):Int):=by rw[w8 (by omega) (by omega)];omega
  have Xm:IntKind.i64.wrap (IntKind.i64.wrap ((i:Int)+2)-1)=((i+1:Nat):Int):=by rw[VV,w8 (by omega) (by omega)];omega
  have et:(IntKind.i64.wrap ((i:Int)+1)).toNat=i+1:=by rw[e7];rfl
  have Xn:(IntKind.i64.wrap (IntKind.i64.wrap ((i:Int)+2)-1)).toNat=i+1:=by rw[Xm];rfl
  cases hk:((l.getD (i+1) aC).1.k==2)with
  |true=>
   have hlt2:=bS hk (by decide);have hd:decide (IntKind.i64.wrap ((i:Int)+1)<(l.length:Int))=true:=decide_eq_true (by rw[e7];omega);have hk2:((l.getD (IntKind.i64.wrap ((i:Int)+1)).toNat aC).1.k==2)=true:=by rw[et];exact hk
   have c:=qf ⟨2,IntKind.i64.wrap (IntKind.u64.wrap (0-((l.getD (IntKind.i64.wrap (IntKind.i64.wrap ((i:Int)+2)-1)).toNat aC).1.n:Int))),[]⟩;rw[if_pos rfl];refine⟨aO,ah ..,ah ..,aD _,ri.call mixed rfl ?_⟩;unfold pV at c;rw[bt]at c;iterate 40 all_goals ((try conv=>whnf);try first|(with_reducible first|refine zY ?_|refine zN ?_|refine zT ?_|refine br (fun _=> ?_) (fun _=> ?_)|refine⟨rfl,?_⟩|refine aj.call (c) ?_)|(refine ci.call rfl ?_))
   refine bT ?_ (by rw[VV];rfl);rw[Xn];exact .lit (aD (pV ⟨2,IntKind.i64.wrap (IntKind.u64.wrap (0-((l.getD (i+1) aC).1.n:Int))),[]⟩))
  |false=>
   rw[if_neg (by decide)];have hk2:((l.getD (IntKind.i64.wrap ((i:Int)+1)).toNat aC).1.k==2)=false:=by rw[et];exact hk
   unfold kH;cases hdn:dn with
   |none=>
    have hq:((e:Int)==40)=true:=by rw[h0 hdn];rfl
    have c:=bM (l:=l) (m:=m) (e:=e) 241 i;refine⟨aO,ah ..,ah ..,ai ..,ri.call mixed rfl ?_⟩;iterate 40 all_goals ((try conv=>whnf);try first|(with_reducible first|refine zY ?_|refine zN ?_|refine zT ?_|refine br (fun _=> ?_) (fun _=> ?_)|refine⟨rfl,?_⟩)|(refine ci.call rfl ?_)|(refine c.bO rfl fun h=> ?_)|(refine ec.call mixed rfl ?_))
    all_goals exact aW (ai _ _)
   |some L=>
    obtain⟨hlt2,hn⟩:=h1 L hdn;have hq:((e:Int)==40)=false:=by rw[beq_eq_false_iff_ne];omega
    have e8:IntKind.i64.wrap ((e:Int)+1)=((e+1:Nat):Int):=bN (by omega);have e9:IntKind.i64.wrap (((e+1:Nat):Int)-1)=(e:Int):=by rw[w8 (by omega) (by omega)];omega
    dsimp only;cases hf:L.unary (i+1)with
    |bad er j=>
     have c:=hn.bad hlt hf;refine⟨aO,ah ..,ah ..,ai ..,ri.call mixed rfl ?_⟩;iterate 60 all_goals ((try conv=>whnf);try first|(with_reducible first|refine zY ?_|refine zN ?_|refine zT ?_|refine br (fun _=> ?_) (fun _=> ?_)|refine⟨rfl,?_⟩)|(refine ci.call rfl ?_)|(refine c.bO (by rw[e7,e8];rfl) fun h=> ?_)|(refine ec.call mixed rfl ?_)|(refine IT.call mixed rfl ?_))
     all_goals exact aW (ai _ _)
    |ok x j=>
     have c:=hn.ok hlt hf;obtain⟨op,v,tb,nm,slot,kd,args⟩:=x;rw[bt]at c;refine⟨aO,ah ..,ah ..,aD _,ri.call mixed rfl ?_⟩;iterate 60 all_goals ((try conv=>whnf);try first|(with_reducible first|refine zY ?_|refine zN ?_|refine zT ?_|refine br (fun _=> ?_) (fun _=> ?_)|refine⟨rfl,?_⟩)|(refine ci.call rfl ?_)|(refine c.call (by rw[e7,e8];rfl) ?_)|(refine ec.call mixed rfl ?_)|(refine IT.call mixed rfl ?_))
     all_goals exact bT (cS (qe rfl (.lit (aD (.mk op v tb nm slot kd args))))) (by rw[e9];rfl)
end
section
variable {l:List TP} {m e:Nat}
theorem vh(hl:l.length<=65536){L:Lv}(hx:sD l m e 22 L.expr)(op:Int)(i:Nat)(hi:i<l.length):
  cy Tryz.prog 256 [.int .u8 op] (dx l i m e) (DM l m (wC (aq l) L op i)) (dx l (lA (wC (aq l) L op i)) m e):=by
 unfold wC;have e7:IntKind.i64.wrap ((i:Int)+1)=((i+1:Nat):Int):=bN (by omega);cases h1:cj (aq l) [40] (i+1)with
 |false=>
  have cm:=bh (m:=m) (e:=e) hl h1;rw[if_neg (by decide)];refine⟨cZ (.int _ _),ah ..,ah ..,ai ..,od.call mixed rfl ?_⟩;iterate 20 all_goals ((try conv=>whnf);try first|(with_reducible first|refine zY ?_|refine zN ?_|refine zT ?_|refine br (fun _=> ?_) (fun _=> ?_)|refine⟨rfl,?_⟩)|(refine dy cm (by rw[e7];rfl) rfl rfl fun h=> ?_))
  exact aW (ai _ _)
 |true=>
  have cm:=aS (m:=m) (e:=e) hl h1;have hi2:i+2<=l.length:=aI h1;rw[if_pos rfl];cases hop:(op==22)with
  |false=>
   rw[Bool.false_and,if_neg (by decide)];cases hf:L.expr (i+2)with
   |bad er j=>
    have c:=hx.bad hi2 hf;refine⟨cZ (.int _ _),ah ..,ah ..,ai ..,od.call mixed rfl ?_⟩;iterate 40 all_goals ((try conv=>whnf);try first|(with_reducible first|refine zY ?_|refine zN ?_|refine zT ?_|refine br (fun _=> ?_) (fun _=> ?_)|refine⟨rfl,?_⟩)|(refine aP cm (by rw[e7];rfl) rfl rfl ?_)|(refine c.bO (by rfl) fun h=> ?_))
    exact aW (ai _ _)
   |ok x j=>
    have c:=hx.ok hi2 hf;obtain⟨zW,v,tb,nm,slot,kd,args⟩:=x;rw[bt]at c;dsimp only[aF.then,aA];cases hc:cj (aq l) [41] j with
    |false=>
     have wJ:=bh (m:=m) (e:=e) hl hc;rw[if_neg (by decide)];refine⟨cZ (.int _ _),ah ..,ah ..,ai ..,od.call mixed rfl ?_⟩;iterate 40 all_goals ((try conv=>whnf);try first|(with_reducible first|refine zY ?_|refine zN ?_|refine zT ?_|refine br (fun _=> ?_) (fun _=> ?_)|refine⟨rfl,?_⟩)|(refine aP cm (by rw[e7];rfl) rfl rfl ?_)|(refine c.call (by rfl) ?_)|(refine dy wJ (by rfl) rfl rfl fun h=> ?_))
     exact aW (ai _ _)
    |true=>
     have wJ:=aS (m:=m) (e:=e) hl hc;rw[if_pos rfl];refine⟨cZ (.int _ _),ah ..,ah ..,aD _,od.call mixed rfl ?_⟩;iterate 40 all_goals ((try conv=>whnf);try first|(with_reducible first|refine zY ?_|refine zN ?_|refine zT ?_|refine br (fun _=> ?_) (fun _=> ?_)|refine⟨rfl,?_⟩)|(refine aP cm (by rw[e7];rfl) rfl rfl ?_)|(refine c.call (by rfl) ?_)|(refine aP wJ (by rfl) rfl rfl ?_))
     exact bT (cS (qe rfl (.lit (aD (.mk zW v tb nm slot kd args))))) rfl
  |true=>
   rw[Bool.true_and];cases hs:cj (aq l) [42] (i+2)with
   |false=>
    have cg:=bU (m:=m) (e:=e) hl hs;rw[if_neg (by decide)];cases hf:L.expr (i+2)with
    |bad er j=>
     have c:=hx.bad hi2 hf;refine⟨cZ (.int _ _),ah ..,ah ..,ai ..,od.call mixed rfl ?_⟩;iterate 40 all_goals ((try conv=>whnf);try first|(with_reducible first|refine zY ?_|refine zN ?_|refine zT ?_|refine br (fun _=> ?_) (fun _=> ?_)|refine⟨rfl,?_⟩)|(refine aP cm (by rw[e7];rfl) rfl rfl ?_)|(refine cg.call (by rfl) ?_)|(refine c.bO (by rfl) fun h=> ?_))
     exact aW (ai _ _)
    |ok x j=>
     have c:=hx.ok hi2 hf;obtain⟨zW,v,tb,nm,slot,kd,args⟩:=x;rw[bt]at c;dsimp only[aF.then,aA];cases hc:cj (aq l) [41] j with
     |false=>
      have wJ:=bh (m:=m) (e:=e) hl hc;rw[if_neg (by decide)];refine⟨cZ (.int _ _),ah ..,ah ..,ai ..,od.call mixed rfl ?_⟩;iterate 40 all_goals ((try conv=>whnf);try first|(with_reducible first|refine zY ?_|refine zN ?_|refine zT ?_|refine br (fun _=> ?_) (fun _=> ?_)|refine⟨rfl,?_⟩)|(refine aP cm (by rw[e7];rfl) rfl rfl ?_)|(refine cg.call (by rfl) ?_)|(refine c.call (by rfl) ?_)|(refine dy wJ (by rfl) rfl rfl fun h=> ?_))
      exact aW (ai _ _)
     |true=>
      have wJ:=aS (m:=m) (e:=e) hl hc;rw[if_pos rfl];refine⟨cZ (.int _ _),ah ..,ah ..,aD _,od.call mixed rfl ?_⟩;iterate 40 all_goals ((try conv=>whnf);try first|(with_reducible first|refine zY ?_|refine zN ?_|refine zT ?_|refine br (fun _=> ?_) (fun _=> ?_)|refine⟨rfl,?_⟩)|(refine aP cm (by rw[e7];rfl) rfl rfl ?_)|(refine cg.call (by rfl) ?_)|(refine c.call (by rfl) ?_)|(refine aP wJ (by rfl) rfl rfl ?_))
      exact bT (cS (qe rfl (.lit (aD (.mk zW v tb nm slot kd args))))) rfl
   |true=>
    have cg:=bG (m:=m) (e:=e) hl hs;rw[if_pos rfl];dsimp only[aF.then,aA];cases hc:cj (aq l) [41] (i+3)with
    |false=>
     have wJ:=bh (m:=m) (e:=e) hl hc;rw[if_neg (by decide)];refine⟨cZ (.int _ _),ah ..,ah ..,ai ..,od.call mixed rfl ?_⟩;iterate 40 all_goals ((try conv=>whnf);try first|(with_reducible first|refine zY ?_|refine zN ?_|refine zT ?_|refine br (fun _=> ?_) (fun _=> ?_)|refine⟨rfl,?_⟩)|(refine aP cm (by rw[e7];rfl) rfl rfl ?_)|(refine cg.call (by rfl) ?_)|(refine dy wJ (by rfl) rfl rfl fun h=> ?_))
     exact aW (ai _ _)
    |true=>
     have wJ:=aS (m:=m) (e:=e) hl hc;rw[if_pos rfl];refine⟨cZ (.int _ _),ah ..,ah ..,aD _,od.call mixed rfl ?_⟩;iterate 40 all_goals ((try conv=>whnf);try first|(with_reducible first|refine zY ?_|refine zN ?_|refine zT ?_|refine br (fun _=> ?_) (fun _=> ?_)|refine⟨rfl,?_⟩)|(refine aP cm (by rw[e7];rfl) rfl rfl ?_)|(refine cg.call (by rfl) ?_)|(refine aP wJ (by rfl) rfl rfl ?_))
     exact bT (cS pW) rfl
end
end Go.Proofs.YtbjifmbemdhndaaGreatDoor
