/- Parts of the proof of PCatalogBack, one behind the other, with short names. -/
import Derived.Test.YtegmnocpkgpgeaaGreatDoorZ24
import Derived.Test.YtegmnocpkgpgeaaGreatDoorZ20
import Derived.Test.YtegmnocpkgpgeaaGreatDoorZ21
import Derived.Lib.TrimAscii
set_option linter.unusedVariables false
set_option linter.unusedSimpArgs false
namespace Go.Proofs.YtegmnocpkgpgeaaGreatDoor
open Ab Go.RowKit
set_option maxRecDepth 100000
set_option maxHeartbeats 4000000
def vA(m:Int):Bool:=(decide (97<=kV .or .u8 m 32)&&decide (kV .or .u8 m 32<=122))||m==95
theorem Fb(c:UInt8):vA (c.toNat:Int)=bL c:=by
 have: ∀n:Fin 256,vA ((UInt8.ofNat n.val).toNat:Int)=bL (UInt8.ofNat n.val):=by decide +kernel
 have h:=this ⟨c.toNat,UInt8.toNat_lt c⟩;simpa using h
theorem Fc(m:Int):aj Tryz.prog 143 [.int .u8 m] (.bool (vA m)):=by
 refine aG (di (.int _ _)) (Ro.call mixed rfl ?_);iterate 16 all_goals ((try conv=>whnf);try first|(with_reducible first|refine zY ?_|refine zN ?_|refine zT ?_|refine br (fun _=> ?_) (fun _=> ?_)|refine⟨rfl,?_⟩))
 all_goals refine leaf ?_ (.bool _)
 all_goals (simp only[vA];simp_all;try omega)
theorem w4(c:UInt8):aj Tryz.prog 143 [.int .u8 (c.toNat:Int)] (.bool (bL c)):=by
 rw[<- Fb];exact Fc _
def NV(m:Int):Bool:=decide (48<=m)&&decide (m<=57)
theorem NW(c:UInt8):NV (c.toNat:Int)=isDigit c:=by
 have: ∀n:Fin 256,NV ((UInt8.ofNat n.val).toNat:Int)=isDigit (UInt8.ofNat n.val):=by decide +kernel
 have h:=this ⟨c.toNat,UInt8.toNat_lt c⟩;simpa using h
theorem Iy(m:Int):aj Tryz.prog 145 [.int .u8 m] (.bool (NV m)):=by
 refine aG (di (.int _ _)) (Rq.call mixed rfl ?_);iterate 16 all_goals ((try conv=>whnf);try first|(with_reducible first|refine zY ?_|refine zN ?_|refine zT ?_|refine br (fun _=> ?_) (fun _=> ?_)|refine⟨rfl,?_⟩))
 all_goals refine leaf ?_ (.bool _)
 all_goals (simp only[NV];simp_all;try omega)
theorem tW(c:UInt8):aj Tryz.prog 145 [.int .u8 (c.toNat:Int)] (.bool (isDigit c)):=by
 rw[<- NW];exact Iy _
def dS(c:UInt8):Bool:=bL c||isDigit c
theorem C8(s:List UInt8):nV s=if 32<(s.takeWhile dS).length then .err 3 else .ok ⟨1,(s.takeWhile dS).map iY,0⟩ (s.takeWhile dS).length:=rfl
theorem Sq:Lib.lowerB=iY:=by
 funext c;have: ∀n:Fin 256,Lib.lowerB (UInt8.ofNat n.val)=iY (UInt8.ofNat n.val):=by decide +kernel
 have h:=this ⟨c.toNat,UInt8.toNat_lt c⟩;simpa using h
theorem C9: ∀c:UInt8,dS c=true->c.toNat<128:=by
 intro c hc;have: ∀n:Fin 256,dS (UInt8.ofNat n.val)=true->(UInt8.ofNat n.val).toNat<128:=by decide +kernel
 have h:=this ⟨c.toNat,UInt8.toNat_lt c⟩;simp only[UInt8.ofNat_toNat]at h;exact h hc
theorem K0{s:List UInt8}(hs:s.length<=100000):aj Tryz.prog 144 [.str s] (yJ (nV s)):=by
 refine aG (di (.str _)) (Rp.call mixed rfl ?_);have hle:=ja (p:=dS) s;iterate 4 all_goals ((try conv=>whnf);try first|(with_reducible first|refine zY ?_|refine zN ?_|refine zT ?_|refine br (fun _=> ?_) (fun _=> ?_)|refine⟨rfl,?_⟩))
 refine nU (σ:={i:Nat // i<=(s.takeWhile dS).length}) (fun x=>[(0,SV.str s),(2,SV.ref 0 0 0 0),(3,SV.int IntKind.i64 0),(4,SV.int IntKind.i64 0),(5,SV.int IntKind.i64 x.1)])
  (fun _=>⟨1,[(0,.vec 0 4 [iF bG] ⟨false,some 176⟩)]⟩) (fun x=>s.length-x.1) ?_ ⟨0,by omega⟩
 rintro⟨i,hi⟩;dsimp only;have e7:IntKind.i64.wrap ((i:Int)+1)=((i+1:Nat):Int):=bf (by omega);have et:=Int.toNat_natCast i
 have hex:i=(s.takeWhile dS).length->aj Tryz.prog 184 [.str (List.take ((i:Int).toNat-Int.toNat 0) (List.drop (Int.toNat 0) s))] (.str ((s.takeWhile dS).map iY)):=fun hW=>by
  have e:List.take ((i:Int).toNat-Int.toNat 0) (List.drop (Int.toNat 0) s)=s.takeWhile dS:=by
   rw[et,show Int.toNat 0=0 from rfl,List.drop_zero,Nat.sub_zero,hW,AN]
  have h:=CY (s:=s.takeWhile dS) (by omega) fun c hc=>C9 c (j6 hc)
  rw[e,<-Sq];exact h
 have Vs:i=(s.takeWhile dS).length->decide ((32:Int)<(i:Int))=true->yJ (nV s)=yJ (.err 3):=fun hW h=>by
  rw[C8,if_pos (by have:=of_decide_eq_true h;omega)]
 have Vt:i=(s.takeWhile dS).length->decide ((32:Int)<(i:Int))=false->yJ (nV s)=yJ (.ok ⟨1,(s.takeWhile dS).map iY,0⟩ i):=fun hW h=>by
  rw[C8,if_neg (by have:=of_decide_eq_false h;omega),<-hW]
 by_cases hil:i<s.length
 ·have hd:decide ((i:Int)<(s.length:Int))=true:=decide_eq_true (by omega)
  have ht:=Ks hi hil;have hl:=w4 (s.getD (i:Int).toNat 0);have hg:=tW (s.getD (i:Int).toNat 0);by_cases hw:dS (s.getD i 0)=true
  ·have hi2:=ht.1 hw
   rw[<- et]at hw;iterate 12 all_goals ((try conv=>whnf);try first|(with_reducible first|refine zY ?_|refine zN ?_|refine zT ?_|refine br (fun _=> ?_) (fun _=> ?_)|refine⟨rfl,?_⟩|refine aj.call (hl) ?_|refine aj.call (hg) ?_))
   all_goals first
    |exact⟨⟨i+1,hi2⟩,by dsimp only;omega,by rw[e7],rfl⟩
    |(exfalso;simp_all[dS];done)
  ·have hW:i=(s.takeWhile dS).length:=by
    rcases Nat.lt_or_ge i (s.takeWhile dS).length with h|h
    ·exact absurd (ht.2 h) hw
    ·omega
   have cl:=hex hW;rw[<- et]at hw;iterate 20 all_goals ((try conv=>whnf);try first|(with_reducible first|refine zY ?_|refine zN ?_|refine zT ?_|refine br (fun _=> ?_) (fun _=> ?_)|refine⟨rfl,?_⟩|refine aj.call (hl) ?_|refine aj.call (hg) ?_|refine aj.call (cl) ?_))
   all_goals first
    |(refine leaf ?_ (cJ _);first|(rw[Vs hW (by assumption)];rfl)|(rw[Vt hW (by assumption)];rfl))
    |(exfalso;simp_all[dS];done)
 ·have hd:decide ((i:Int)<(s.length:Int))=false:=decide_eq_false (by omega)
  have hW:i=(s.takeWhile dS).length:=by omega
  have cl:=hex hW;iterate 20 all_goals ((try conv=>whnf);try first|(with_reducible first|refine zY ?_|refine zN ?_|refine zT ?_|refine br (fun _=> ?_) (fun _=> ?_)|refine⟨rfl,?_⟩|refine aj.call (cl) ?_))
  all_goals (refine leaf ?_ (cJ _);first|(rw[Vs hW (by assumption)];rfl)|(rw[Vt hW (by assumption)];rfl))
theorem Fe{s:List UInt8}(hs:s.length<=100000)(h0:isDigit (s.getD 0 0)=true)(hne:s≠[]):aj Tryz.prog 146 [.str s] (yJ (iZ s)):=by
 refine aG (di (.str _)) (Rr.call mixed rfl ?_);have hle:=ja (p:=isDigit) s
 have hw0:s.takeWhile isDigit≠[]:=by
  cases s with
  |nil=>exact absurd rfl hne
  |cons a r=>rw[List.takeWhile_cons,if_pos (show isDigit a=true from h0)];simp
 have hp:=Il hw0 fun c hc=>j6 hc
 have Iz:iZ s=if 9223372036854775808<numOf (s.takeWhile isDigit)then .err 233 else .ok ⟨2,[],numOf (s.takeWhile isDigit)⟩ (s.takeWhile isDigit).length:=rfl
 iterate 4 all_goals ((try conv=>whnf);try first|(with_reducible first|refine zY ?_|refine zN ?_|refine zT ?_|refine br (fun _=> ?_) (fun _=> ?_)|refine⟨rfl,?_⟩))
 refine nU (σ:={i:Nat // i<=(s.takeWhile isDigit).length}) (fun x=>[(0,SV.str s),(2,SV.ref 0 0 0 0),(3,SV.int IntKind.i64 0),(4,SV.int IntKind.i64 0),(5,SV.int IntKind.i64 x.1)])
  (fun _=>⟨1,[(0,.vec 0 4 [iF bG] ⟨false,some 176⟩)]⟩) (fun x=>s.length-x.1) ?_ ⟨0,by omega⟩
 rintro⟨i,hi⟩;dsimp only;have e7:IntKind.i64.wrap ((i:Int)+1)=((i+1:Nat):Int):=bf (by omega);have et:=Int.toNat_natCast i
 have e:i=(s.takeWhile isDigit).length->List.take ((i:Int).toNat-Int.toNat 0) (List.drop (Int.toNat 0) s)=s.takeWhile isDigit:=fun hW=>by
  rw[et,show Int.toNat 0=0 from rfl,List.drop_zero,Nat.sub_zero,hW,AN]
 have more: ∀hW:i=(s.takeWhile isDigit).length,numOf (s.takeWhile isDigit)<18446744073709551616->aj Tryz.prog 185 [.str (List.take ((i:Int).toNat-Int.toNat 0) (List.drop (Int.toNat 0) s)),.int .i64 10,.int .i64 64] (.bn [.int .u64 (numOf (s.takeWhile isDigit):Nat),.dF]):=fun hW hlt=>by
  rw[e hW];exact KS (by omega) (by rw[hp,if_pos hlt])
 have less: ∀hW:i=(s.takeWhile isDigit).length,¬numOf (s.takeWhile isDigit)<18446744073709551616-> ∃t,aj Tryz.prog 185 [.str (List.take ((i:Int).toNat-Int.toNat 0) (List.drop (Int.toNat 0) s)),.int .i64 10,.int .i64 64] (.bn [.int .u64 18446744073709551615,.iface t .undef]):=fun hW hlt=>by
  rw[e hW];exact CZ (by omega) (by rw[hp,if_neg hlt])
 by_cases hil:i<s.length
 ·have hd:decide ((i:Int)<(s.length:Int))=true:=decide_eq_true (by omega)
  have ht:=Ks hi hil;have hg:=tW (s.getD (i:Int).toNat 0);by_cases hw:isDigit (s.getD i 0)=true
  ·have hi2:=ht.1 hw
   rw[<- et]at hw;iterate 12 all_goals ((try conv=>whnf);try first|(with_reducible first|refine zY ?_|refine zN ?_|refine zT ?_|refine br (fun _=> ?_) (fun _=> ?_)|refine⟨rfl,?_⟩|refine aj.call (hg) ?_))
   exact⟨⟨i+1,hi2⟩,by dsimp only;omega,by rw[e7],rfl⟩
  ·have hW:i=(s.takeWhile isDigit).length:=by
    rcases Nat.lt_or_ge i (s.takeWhile isDigit).length with h|h
    ·exact absurd (ht.2 h) hw
    ·omega
   rw[<- et]at hw;have hw:isDigit (s.getD (i:Int).toNat 0)=false:=by simpa using hw
   by_cases hlt:numOf (s.takeWhile isDigit)<18446744073709551616
   ·have cm:=more hW hlt
    iterate 20 all_goals ((try conv=>whnf);try first|(with_reducible first|refine zY ?_|refine zN ?_|refine zT ?_|refine br (fun _=> ?_) (fun _=> ?_)|refine⟨rfl,?_⟩|refine aj.call (hg) ?_|refine aj.call (cm) ?_))
    ·have h:=of_decide_eq_true (by assumption:decide ((9223372036854775808:Int)<((numOf (s.takeWhile isDigit):Nat):Int))=true)
     exact leaf (by rw[Iz,if_pos (by omega)];rfl) (cJ _)
    ·have h:=of_decide_eq_false (by assumption:decide ((9223372036854775808:Int)<((numOf (s.takeWhile isDigit):Nat):Int))=false)
     exact leaf (by rw[Iz,if_neg (by omega),<-hW];rfl) (cJ _)
   ·obtain⟨t,cm⟩:=less hW hlt
    iterate 20 all_goals ((try conv=>whnf);try first|(with_reducible first|refine zY ?_|refine zN ?_|refine zT ?_|refine br (fun _=> ?_) (fun _=> ?_)|refine⟨rfl,?_⟩|refine aj.call (hg) ?_|refine aj.call (cm) ?_))
    exact leaf (by rw[Iz,if_pos (by omega)];rfl) (cJ _)
 ·have hd:decide ((i:Int)<(s.length:Int))=false:=decide_eq_false (by omega)
  have hW:i=(s.takeWhile isDigit).length:=by omega
  by_cases hlt:numOf (s.takeWhile isDigit)<18446744073709551616
  ·have cm:=more hW hlt
   iterate 20 all_goals ((try conv=>whnf);try first|(with_reducible first|refine zY ?_|refine zN ?_|refine zT ?_|refine br (fun _=> ?_) (fun _=> ?_)|refine⟨rfl,?_⟩|refine aj.call (cm) ?_))
   ·have h:=of_decide_eq_true (by assumption:decide ((9223372036854775808:Int)<((numOf (s.takeWhile isDigit):Nat):Int))=true)
    exact leaf (by rw[Iz,if_pos (by omega)];rfl) (cJ _)
   ·have h:=of_decide_eq_false (by assumption:decide ((9223372036854775808:Int)<((numOf (s.takeWhile isDigit):Nat):Int))=false)
    exact leaf (by rw[Iz,if_neg (by omega),<-hW];rfl) (cJ _)
  ·obtain⟨t,cm⟩:=less hW hlt
   iterate 20 all_goals ((try conv=>whnf);try first|(with_reducible first|refine zY ?_|refine zN ?_|refine zT ?_|refine br (fun _=> ?_) (fun _=> ?_)|refine⟨rfl,?_⟩|refine aj.call (cm) ?_))
   exact leaf (by rw[Iz,if_pos (by omega)];rfl) (cJ _)
end Go.Proofs.YtegmnocpkgpgeaaGreatDoor
namespace Go.Proofs.YtegmnocpkgpgeaaGreatDoor
open Ab Go.RowKit
set_option maxRecDepth 100000
attribute [local irreducible] aS
section
section
variable {m:Nat} {l:List (Nat×ai)} {bi j g:Nat} {o:List UInt8} {R:bu->Heap->Prop}
theorem K1{c:UInt8}{x:Int}(hx:SV.int .u8 x=tw c)(hb:ak l bi=some (mU 99 bi j g o.length))(hj:ak l j=some (mV 5 g o))(AH:bi<m)(EM:j<m)(hne:bi≠j)(hl:QH l m)(hlen:o.length+1<=140737488355328)
  (hk:R (.ret .dF) ⟨m,o4 99 5 l bi j (g+1) (o++[c])⟩):aC Tryz.prog 92 [.ref bi 0 0 0,.int .u8 x] ⟨m,l⟩ R:=by
 refine aC.cut (Nat.le_refl m) (KA.call mixed rfl ?_);have q1:Nat.beq m bi=false:=T7 (by omega);have q2:Nat.beq m j=false:=T7 (by omega);have q4:(Nat.beq bi bi&&Nat.beq 0 0&&(Nat.beq 0 0&&Nat.beq 0 0))=true:=by rw[cC];rfl
 have q5:ak (bt l j (.vec (g+1) 1 (o.map tw++[SV.int .u8 x]) ⟨true,some 5⟩)) bi=some (mU 99 bi j g o.length):=by rw[aF hne];exact hb
 iterate 40 all_goals ((try conv=>whnf);try first|(with_reducible first|refine zY ?_|refine zN ?_|refine zT ?_|refine br (fun _=> ?_) (fun _=> ?_)|refine⟨rfl,?_⟩)|(refine sK.call mixed rfl ?_)|(with_reducible refine aH hb ?_)|(with_reducible refine aH hj ?_)|(with_reducible refine aH q5 ?_)|(refine EY hj EM rfl hlen ?_)|(with_reducible refine kE ?_))
 have e:bt (bt l j (.vec (g+1) 1 (o.map tw++[SV.int .u8 x]) ⟨true,some 5⟩)) bi (.vec 0 2 [.agg [.ref bi 0 0 0,.sl j (g+1) 1 0 (o.length+1) none]] ⟨false,some 99⟩)=o4 99 5 l bi j (g+1) (o++[c]):=by
  unfold o4;rw[hx,List.length_append,mV,List.map_append];rfl
 rw[e];exact⟨_,fun i ob h=>⟨Ky (sI hl AH EM hne i ob h).1 h,sI hl AH EM hne i ob h⟩,.dF,hk⟩
theorem w5{s:List UInt8}(hb:ak l bi=some (mU 99 bi j g o.length))(hj:ak l j=some (mV 5 g o))(AH:bi<m)(EM:j<m)(hne:bi≠j)(hl:QH l m)(hlen:o.length+s.length<=140737488355328)
  (hk: ∀g',R (.ret (.bn [.int .i64 s.length,.dF])) ⟨m,o4 99 5 l bi j g' (o++s)⟩):aC Tryz.prog 33 [.ref bi 0 0 0,.str s] ⟨m,l⟩ R:=by
 refine aC.cut (Nat.le_refl m) (Gx.call mixed rfl ?_);have q4:(Nat.beq bi bi&&Nat.beq 0 0&&(Nat.beq 0 0&&Nat.beq 0 0))=true:=by rw[cC];rfl
 have lit:Kv (.ret (.bn [.int .i64 s.length,.dF])):=tT (.int _ _) .dF;by_cases h0:s=[]
 ·subst h0
  iterate 40 all_goals ((try conv=>whnf);try first|(with_reducible first|refine zY ?_|refine zN ?_|refine zT ?_|refine br (fun _=> ?_) (fun _=> ?_)|refine⟨rfl,?_⟩)|(refine sK.call mixed rfl ?_)|(with_reducible refine aH hb ?_)|(with_reducible refine aH hj ?_)|(refine AO (qt []) hj ?_)|(with_reducible refine kE ?_))
  have e:bt l bi (mU 99 bi j g o.length)=o4 99 5 l bi j g (o++[]):=by
   unfold o4;rw[List.append_nil,zu hj]
  refine⟨o4 99 5 l bi j g (o++[]),fun i ob h=>⟨?_,sI hl AH EM hne i ob h⟩,lit,hk g⟩;rw[<- e]at h;exact h
 ·have hpos:0<s.length:=by cases s with|nil=>exact absurd rfl h0|cons c r=>simp
  have q5:ak (bt l j (.vec (g+1) 1 (o.map tw++s.map tw) ⟨true,some 5⟩)) bi=some (mU 99 bi j g o.length):=by rw[aF hne];exact hb
  iterate 40 all_goals ((try conv=>whnf);try first|(with_reducible first|refine zY ?_|refine zN ?_|refine zT ?_|refine br (fun _=> ?_) (fun _=> ?_)|refine⟨rfl,?_⟩)|(refine sK.call mixed rfl ?_)|(with_reducible refine aH hb ?_)|(with_reducible refine aH hj ?_)|(with_reducible refine aH q5 ?_)|(refine wR hj hpos hlen ?_)|(with_reducible refine kE ?_))
  have e:bt (bt l j (.vec (g+1) 1 (o.map tw++s.map tw) ⟨true,some 5⟩)) bi (.vec 0 2 [.agg [.ref bi 0 0 0,.sl j (g+1) 1 0 (o.length+s.length) none]] ⟨false,some 99⟩)=o4 99 5 l bi j (g+1) (o++s):=by
   unfold o4;rw[List.length_append,mV,List.map_append]
  refine⟨o4 99 5 l bi j (g+1) (o++s),fun i ob h=>⟨?_,sI hl AH EM hne i ob h⟩,lit,hk _⟩;rw[<- e]at h;exact h
theorem Sr(hb:ak l bi=some (mU 99 bi j g o.length))(hj:ak l j=some (mV 5 g o))(h0:0<o.length)(hlen:o.length<=9223372036854775807)
  (hk: ∀l',R (.ret (.str o)) ⟨m,l'⟩):aC Tryz.prog 34 [.ref bi 0 0 0] ⟨m,l⟩ R:=by
 refine zv.call mixed rfl ?_;have q1:Nat.blt 0 o.length=true:=by rw[Nat.blt,Nat.ble_eq];exact h0
 have q2:(Nat.beq g g&&(Nat.beq 0 0&&Nat.beq 0 0)&&(Nat.beq 1 1&&HE (Sk.ty ⟨true,some 5⟩) 5)&&(decide (0<(o.length:Int))&&decide ((o.length:Int)<=9223372036854775807)))=true:=by
  rw[cC,decide_eq_true (show 0<(o.length:Int) by omega),decide_eq_true (show(o.length:Int)<=9223372036854775807 by omega)];rfl
 have q3:Nat.beq g g=true:=cC g;have q4:Nat.beq j j=true:=cC j;iterate 40 all_goals ((try conv=>whnf);try first|(with_reducible first|refine zY ?_|refine zN ?_|refine zT ?_|refine br (fun _=> ?_) (fun _=> ?_)|refine⟨rfl,?_⟩)|(with_reducible refine aH hb ?_)|(with_reducible refine aH hj ?_)|(refine tU (by simp) ?_)|(refine rP ?_)|(with_reducible refine kE ?_))
 exact hk _
end
end
end Go.Proofs.YtegmnocpkgpgeaaGreatDoor
namespace Go.Proofs.YtegmnocpkgpgeaaGreatDoor
open Go.Lib
theorem qu(r:List UInt8):decodeL (39::r)=(39,1):=decodeL_ascii 39 r (by decide)
theorem Da{c:UInt8}{r:List UInt8}(h:c≠39):(decodeL (c::r)).1≠39:=by
 by_cases hc:c.toNat<128
 ·rw[decodeL_ascii c r hc]
  intro e;exact h (UInt8.toNat_inj.1 e)
 ·rw[decodeL_N]
  simp only[List.getD_cons_zero];unfold decodeN
  repeat' split
  all_goals (dsimp only;omega)
theorem lX(s:List UInt8)(pos:Nat):Utf8.decode ⟨s.toArray⟩ pos=decodeL (s.drop pos):=by
 have:=decodeL_drop ⟨s.toArray⟩ pos;rw[<- this]
theorem drop_cons{s:List UInt8}{pos:Nat}(h:pos<s.length):s.drop pos=s.getD pos 0::s.drop (pos+1):=by
 rw[List.drop_eq_getElem_cons h];simp[List.getD,h]
theorem uQ{f i:Nat}{l buf:List UInt8}{bad:Bool}(hne:l≠[])(h:l.getD 0 0≠39):
  bX (f+1) l i bad buf=bX f (l.drop (decodeL l).2) (i+(decodeL l).2) (bad||((decodeL l).1==65533&&(decodeL l).2==1)) (buf++l.take (decodeL l).2):=by
 cases l with
 |nil=>exact absurd rfl hne
 |cons c r=>rw[bX,if_pos (show c≠39 from h)]
theorem w6{f i:Nat}{l buf:List UInt8}{bad:Bool}(h0:l.getD 0 0=39)(h1:l.getD 1 0=39):bX (f+1) l i bad buf=bX f (l.drop 2) (i+2) bad (buf++[39]):=by
 cases l with
 |nil=>exact absurd h0 (by decide)
 |cons c r=>
  rw[bX,if_neg (by simpa using h0),if_pos (show r.getD 0 0=39 from h1)];rfl
theorem w7{f i:Nat}{l buf:List UInt8}{bad:Bool}(h0:l.getD 0 0=39)(h1:l.getD 1 0≠39):bX (f+1) l i bad buf=if bad then .err 232 else if 64<buf.length then .err 3 else .ok ⟨3,buf,0⟩ (i+1):=by
 cases l with
 |nil=>exact absurd h0 (by decide)
 |cons c r=>rw[bX,if_neg (by simpa using h0),if_neg (show ¬r.getD 0 0=39 from h1)]
theorem Ff(f i:Nat)(bad:Bool)(buf:List UInt8):bX f [] i bad buf= .err 231:=by cases f<;>rfl
theorem AY{l:List UInt8}:([39,39]:List UInt8).isPrefixOf l=true<->l.getD 0 0=39/\l.getD 1 0=39:=by
 match l with
 | []=>simp[List.isPrefixOf]
 | [a]=>simp[List.isPrefixOf]
 |a::b::r=>
  show((39:UInt8)==a&&((39:UInt8)==b&&true))=true<->a=39/\b=39;simp only[Bool.and_eq_true,beq_iff_eq,and_true];exact⟨fun h=>⟨h.1.symm,h.2.symm⟩,fun h=>⟨h.1.symm,h.2.symm⟩⟩
theorem cD(s:List UInt8)(p j:Nat):(s.drop p).getD j 0=s.getD (p+j) 0:=by
 simp[List.getD,List.getElem?_drop]
theorem j8(a b:Nat):((a:Int)==(b:Int))=(a==b):=by
 rw[Bool.eq_iff_iff];simp;omega
end Go.Proofs.YtegmnocpkgpgeaaGreatDoor
