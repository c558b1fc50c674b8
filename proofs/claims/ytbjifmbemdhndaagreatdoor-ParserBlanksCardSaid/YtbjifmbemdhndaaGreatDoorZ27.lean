/- Parts of the proof of PParserBlanks, one behind the other, with short names. -/
import Derived.Test.YtbjifmbemdhndaaGreatDoorZ24
import Derived.Test.YtbjifmbemdhndaaGreatDoorZ21
set_option linter.unusedVariables false
set_option linter.unusedSimpArgs false
namespace Go.Proofs.YtbjifmbemdhndaaGreatDoor
open Ab Go.RowKit
set_option maxRecDepth 100000
set_option maxHeartbeats 4000000
def vg(m:Int):Bool:=(decide (97<=kO .or .u8 m 32)&&decide (kO .or .u8 m 32<=122))||m==95
theorem DG(c:UInt8):vg (c.toNat:Int)=cL c:=by
 have: ∀n:Fin 256,vg ((UInt8.ofNat n.val).toNat:Int)=cL (UInt8.ofNat n.val):=by decide +kernel
 have h:=this ⟨c.toNat,UInt8.toNat_lt c⟩;simpa using h
theorem DH(m:Int):aj Tryz.prog 74 [.int .u8 m] (.bool (vg m)):=by
 refine bQ (cZ (.int _ _)) (Mf.call mixed rfl ?_);iterate 16 all_goals ((try conv=>whnf);try first|(with_reducible first|refine zY ?_|refine zN ?_|refine zT ?_|refine br (fun _=> ?_) (fun _=> ?_)|refine⟨rfl,?_⟩))
 all_goals refine leaf ?_ (.bool _)
 all_goals (simp only[vg];simp_all;try omega)
theorem wD(c:UInt8):aj Tryz.prog 74 [.int .u8 (c.toNat:Int)] (.bool (cL c)):=by
 rw[<- DG];exact DH _
def KF(m:Int):Bool:=decide (48<=m)&&decide (m<=57)
theorem KG(c:UInt8):KF (c.toNat:Int)=isDigit c:=by
 have: ∀n:Fin 256,KF ((UInt8.ofNat n.val).toNat:Int)=isDigit (UInt8.ofNat n.val):=by decide +kernel
 have h:=this ⟨c.toNat,UInt8.toNat_lt c⟩;simpa using h
theorem GH(m:Int):aj Tryz.prog 76 [.int .u8 m] (.bool (KF m)):=by
 refine bQ (cZ (.int _ _)) (Mh.call mixed rfl ?_);iterate 16 all_goals ((try conv=>whnf);try first|(with_reducible first|refine zY ?_|refine zN ?_|refine zT ?_|refine br (fun _=> ?_) (fun _=> ?_)|refine⟨rfl,?_⟩))
 all_goals refine leaf ?_ (.bool _)
 all_goals (simp only[KF];simp_all;try omega)
theorem tL(c:UInt8):aj Tryz.prog 76 [.int .u8 (c.toNat:Int)] (.bool (isDigit c)):=by
 rw[<- KG];exact GH _
def ez(c:UInt8):Bool:=cL c||isDigit c
theorem BL(s:List UInt8):ov s=if 32<(s.takeWhile ez).length then .err 3 else .ok ⟨1,(s.takeWhile ez).map uR,0⟩ (s.takeWhile ez).length:=rfl
theorem Ou:Lib.lowerB=uR:=by
 funext c;have: ∀n:Fin 256,Lib.lowerB (UInt8.ofNat n.val)=uR (UInt8.ofNat n.val):=by decide +kernel
 have h:=this ⟨c.toNat,UInt8.toNat_lt c⟩;simpa using h
theorem BM: ∀c:UInt8,ez c=true->c.toNat<128:=by
 intro c hc;have: ∀n:Fin 256,ez (UInt8.ofNat n.val)=true->(UInt8.ofNat n.val).toNat<128:=by decide +kernel
 have h:=this ⟨c.toNat,UInt8.toNat_lt c⟩;simp only[UInt8.ofNat_toNat]at h;exact h hc
theorem IZ{s:List UInt8}(hs:s.length<=100000):aj Tryz.prog 75 [.str s] (xD (ov s)):=by
 refine bQ (cZ (.str _)) (Mg.call mixed rfl ?_);have hle:=iR (p:=ez) s;iterate 4 all_goals ((try conv=>whnf);try first|(with_reducible first|refine zY ?_|refine zN ?_|refine zT ?_|refine br (fun _=> ?_) (fun _=> ?_)|refine⟨rfl,?_⟩))
 refine pI (σ:={i:Nat // i<=(s.takeWhile ez).length}) (fun x=>[(0,SV.str s),(2,SV.ref 0 0 0 0),(3,SV.int IntKind.i64 0),(4,SV.int IntKind.i64 0),(5,SV.int IntKind.i64 x.1)])
  (fun _=>⟨1,[(0,.vec 0 4 [me aC] ⟨false,some 57⟩)]⟩) (fun x=>s.length-x.1) ?_ ⟨0,by omega⟩
 rintro⟨i,hi⟩;dsimp only;have e7:IntKind.i64.wrap ((i:Int)+1)=((i+1:Nat):Int):=bN (by omega);have et:=Int.toNat_natCast i
 have hex:i=(s.takeWhile ez).length->aj Tryz.prog 126 [.str (List.take ((i:Int).toNat-Int.toNat 0) (List.drop (Int.toNat 0) s))] (.str ((s.takeWhile ez).map uR)):=fun hW=>by
  have e:List.take ((i:Int).toNat-Int.toNat 0) (List.drop (Int.toNat 0) s)=s.takeWhile ez:=by
   rw[et,show Int.toNat 0=0 from rfl,List.drop_zero,Nat.sub_zero,hW,ve]
  have h:=BD (s:=s.takeWhile ez) (by omega) fun c hc=>BM c (jw hc)
  rw[e,<-Ou];exact h
 have R5:i=(s.takeWhile ez).length->decide ((32:Int)<(i:Int))=true->xD (ov s)=xD (.err 3):=fun hW h=>by
  rw[BL,if_pos (by have:=of_decide_eq_true h;omega)]
 have R6:i=(s.takeWhile ez).length->decide ((32:Int)<(i:Int))=false->xD (ov s)=xD (.ok ⟨1,(s.takeWhile ez).map uR,0⟩ i):=fun hW h=>by
  rw[BL,if_neg (by have:=of_decide_eq_false h;omega),<-hW]
 by_cases hil:i<s.length
 ·have hd:decide ((i:Int)<(s.length:Int))=true:=decide_eq_true (by omega)
  have ht:=It hi hil;have hl:=wD (s.getD (i:Int).toNat 0);have hg:=tL (s.getD (i:Int).toNat 0);by_cases hw:ez (s.getD i 0)=true
  ·have hi2:=ht.1 hw
   rw[<- et]at hw;iterate 12 all_goals ((try conv=>whnf);try first|(with_reducible first|refine zY ?_|refine zN ?_|refine zT ?_|refine br (fun _=> ?_) (fun _=> ?_)|refine⟨rfl,?_⟩|refine aj.call (hl) ?_|refine aj.call (hg) ?_))
   all_goals first
    |exact⟨⟨i+1,hi2⟩,by dsimp only;omega,by rw[e7],rfl⟩
    |(exfalso;simp_all[ez];done)
  ·have hW:i=(s.takeWhile ez).length:=by
    rcases Nat.lt_or_ge i (s.takeWhile ez).length with h|h
    ·exact absurd (ht.2 h) hw
    ·omega
   have cl:=hex hW;rw[<- et]at hw;iterate 20 all_goals ((try conv=>whnf);try first|(with_reducible first|refine zY ?_|refine zN ?_|refine zT ?_|refine br (fun _=> ?_) (fun _=> ?_)|refine⟨rfl,?_⟩|refine aj.call (hl) ?_|refine aj.call (hg) ?_|refine aj.call (cl) ?_))
   all_goals first
    |(refine leaf ?_ (di _);first|(rw[R5 hW (by assumption)];rfl)|(rw[R6 hW (by assumption)];rfl))
    |(exfalso;simp_all[ez];done)
 ·have hd:decide ((i:Int)<(s.length:Int))=false:=decide_eq_false (by omega)
  have hW:i=(s.takeWhile ez).length:=by omega
  have cl:=hex hW;iterate 20 all_goals ((try conv=>whnf);try first|(with_reducible first|refine zY ?_|refine zN ?_|refine zT ?_|refine br (fun _=> ?_) (fun _=> ?_)|refine⟨rfl,?_⟩|refine aj.call (cl) ?_))
  all_goals (refine leaf ?_ (di _);first|(rw[R5 hW (by assumption)];rfl)|(rw[R6 hW (by assumption)];rfl))
theorem DI{s:List UInt8}(hs:s.length<=100000)(h0:isDigit (s.getD 0 0)=true)(hne:s≠[]):aj Tryz.prog 77 [.str s] (xD (jv s)):=by
 refine bQ (cZ (.str _)) (Mi.call mixed rfl ?_);have hle:=iR (p:=isDigit) s
 have hw0:s.takeWhile isDigit≠[]:=by
  cases s with
  |nil=>exact absurd rfl hne
  |cons a r=>rw[List.takeWhile_cons,if_pos (show isDigit a=true from h0)];simp
 have hp:=Gs hw0 fun c hc=>jw hc
 have GI:jv s=if 9223372036854775808<numOf (s.takeWhile isDigit)then .err 233 else .ok ⟨2,[],numOf (s.takeWhile isDigit)⟩ (s.takeWhile isDigit).length:=rfl
 iterate 4 all_goals ((try conv=>whnf);try first|(with_reducible first|refine zY ?_|refine zN ?_|refine zT ?_|refine br (fun _=> ?_) (fun _=> ?_)|refine⟨rfl,?_⟩))
 refine pI (σ:={i:Nat // i<=(s.takeWhile isDigit).length}) (fun x=>[(0,SV.str s),(2,SV.ref 0 0 0 0),(3,SV.int IntKind.i64 0),(4,SV.int IntKind.i64 0),(5,SV.int IntKind.i64 x.1)])
  (fun _=>⟨1,[(0,.vec 0 4 [me aC] ⟨false,some 57⟩)]⟩) (fun x=>s.length-x.1) ?_ ⟨0,by omega⟩
 rintro⟨i,hi⟩;dsimp only;have e7:IntKind.i64.wrap ((i:Int)+1)=((i+1:Nat):Int):=bN (by omega);have et:=Int.toNat_natCast i
 have e:i=(s.takeWhile isDigit).length->List.take ((i:Int).toNat-Int.toNat 0) (List.drop (Int.toNat 0) s)=s.takeWhile isDigit:=fun hW=>by
  rw[et,show Int.toNat 0=0 from rfl,List.drop_zero,Nat.sub_zero,hW,ve]
 have more: ∀hW:i=(s.takeWhile isDigit).length,numOf (s.takeWhile isDigit)<18446744073709551616->aj Tryz.prog 127 [.str (List.take ((i:Int).toNat-Int.toNat 0) (List.drop (Int.toNat 0) s)),.int .i64 10,.int .i64 64] (.bn [.int .u64 (numOf (s.takeWhile isDigit):Nat),.dZ]):=fun hW hlt=>by
  rw[e hW];exact IU (by omega) (by rw[hp,if_pos hlt])
 have less: ∀hW:i=(s.takeWhile isDigit).length,¬numOf (s.takeWhile isDigit)<18446744073709551616-> ∃t,aj Tryz.prog 127 [.str (List.take ((i:Int).toNat-Int.toNat 0) (List.drop (Int.toNat 0) s)),.int .i64 10,.int .i64 64] (.bn [.int .u64 18446744073709551615,.iface t .undef]):=fun hW hlt=>by
  rw[e hW];exact BE (by omega) (by rw[hp,if_neg hlt])
 by_cases hil:i<s.length
 ·have hd:decide ((i:Int)<(s.length:Int))=true:=decide_eq_true (by omega)
  have ht:=It hi hil;have hg:=tL (s.getD (i:Int).toNat 0);by_cases hw:isDigit (s.getD i 0)=true
  ·have hi2:=ht.1 hw
   rw[<- et]at hw;iterate 12 all_goals ((try conv=>whnf);try first|(with_reducible first|refine zY ?_|refine zN ?_|refine zT ?_|refine br (fun _=> ?_) (fun _=> ?_)|refine⟨rfl,?_⟩|refine aj.call (hg) ?_))
   exact⟨⟨i+1,hi2⟩,by dsimp only;omega,by rw[e7],rfl⟩
  ·have hW:i=(s.takeWhile isDigit).length:=by
    rcases Nat.lt_or_ge i (s.takeWhile isDigit).length with h|h
    ·exact absurd (ht.2 h) hw
    ·omega
   rw[<- et]at hw;have hw:isDigit (s.getD (i:Int).toNat 0)=false:=by simpa using hw
   by_cases hlt:numOf (s.takeWhile isDigit)<18446744073709551616
   ·have cm:=more hW hlt
    iterate 20 all_goals ((try conv=>whnf);try first|(with_reducible first|refine zY ?_|refine zN ?_|refine zT ?_|refine br (fun _=> ?_) (fun _=> ?_)|refine⟨rfl,?_⟩|refine aj.call (hg) ?_|refine aj.call (cm) ?_))
    ·have h:=of_decide_eq_true (by assumption:decide ((9223372036854775808:Int)<((numOf (s.takeWhile isDigit):Nat):Int))=true)
     exact leaf (by rw[GI,if_pos (by omega)];rfl) (di _)
    ·have h:=of_decide_eq_false (by assumption:decide ((9223372036854775808:Int)<((numOf (s.takeWhile isDigit):Nat):Int))=false)
     exact leaf (by rw[GI,if_neg (by omega),<-hW];rfl) (di _)
   ·obtain⟨t,cm⟩:=less hW hlt
    iterate 20 all_goals ((try conv=>whnf);try first|(with_reducible first|refine zY ?_|refine zN ?_|refine zT ?_|refine br (fun _=> ?_) (fun _=> ?_)|refine⟨rfl,?_⟩|refine aj.call (hg) ?_|refine aj.call (cm) ?_))
    exact leaf (by rw[GI,if_pos (by omega)];rfl) (di _)
 ·have hd:decide ((i:Int)<(s.length:Int))=false:=decide_eq_false (by omega)
  have hW:i=(s.takeWhile isDigit).length:=by omega
  by_cases hlt:numOf (s.takeWhile isDigit)<18446744073709551616
  ·have cm:=more hW hlt
   iterate 20 all_goals ((try conv=>whnf);try first|(with_reducible first|refine zY ?_|refine zN ?_|refine zT ?_|refine br (fun _=> ?_) (fun _=> ?_)|refine⟨rfl,?_⟩|refine aj.call (cm) ?_))
   ·have h:=of_decide_eq_true (by assumption:decide ((9223372036854775808:Int)<((numOf (s.takeWhile isDigit):Nat):Int))=true)
    exact leaf (by rw[GI,if_pos (by omega)];rfl) (di _)
   ·have h:=of_decide_eq_false (by assumption:decide ((9223372036854775808:Int)<((numOf (s.takeWhile isDigit):Nat):Int))=false)
    exact leaf (by rw[GI,if_neg (by omega),<-hW];rfl) (di _)
  ·obtain⟨t,cm⟩:=less hW hlt
   iterate 20 all_goals ((try conv=>whnf);try first|(with_reducible first|refine zY ?_|refine zN ?_|refine zT ?_|refine br (fun _=> ?_) (fun _=> ?_)|refine⟨rfl,?_⟩|refine aj.call (cm) ?_))
   exact leaf (by rw[GI,if_pos (by omega)];rfl) (di _)
end Go.Proofs.YtbjifmbemdhndaaGreatDoor
namespace Go.Proofs.YtbjifmbemdhndaaGreatDoor
open Ab Go.RowKit
set_option maxRecDepth 100000
attribute [local irreducible] bB
section
section
variable {m:Nat} {l:List (Nat×aG)} {bi j g:Nat} {o:List UInt8} {R:cG->Heap->Prop}
theorem I0{c:UInt8}{x:Int}(hx:SV.int .u8 x=uS c)(hb:aV l bi=some (tF 84 bi j g o.length))(hj:aV l j=some (uT 5 g o))(Bk:bi<m)(Di:j<m)(hne:bi≠j)(hl:Qu l m)(hlen:o.length+1<=140737488355328)
  (hk:R (.ret .dZ) ⟨m,oK 84 5 l bi j (g+1) (o++[c])⟩):aZ Tryz.prog 33 [.ref bi 0 0 0,.int .u8 x] ⟨m,l⟩ R:=by
 refine aZ.cut (Nat.le_refl m) (IF.call mixed rfl ?_);have q1:Nat.beq m bi=false:=Rg (by omega);have q2:Nat.beq m j=false:=Rg (by omega);have q4:(Nat.beq bi bi&&Nat.beq 0 0&&(Nat.beq 0 0&&Nat.beq 0 0))=true:=by rw[iF];rfl
 have q5:aV (cO l j (.vec (g+1) 1 (o.map uS++[SV.int .u8 x]) ⟨true,some 5⟩)) bi=some (tF 84 bi j g o.length):=by rw[dQ hne];exact hb
 iterate 40 all_goals ((try conv=>whnf);try first|(with_reducible first|refine zY ?_|refine zN ?_|refine zT ?_|refine br (fun _=> ?_) (fun _=> ?_)|refine⟨rfl,?_⟩)|(refine yG.call mixed rfl ?_)|(with_reducible refine gm hb ?_)|(with_reducible refine gm hj ?_)|(with_reducible refine gm q5 ?_)|(refine Du hj Di rfl hlen ?_)|(with_reducible refine sn ?_))
 have e:cO (cO l j (.vec (g+1) 1 (o.map uS++[SV.int .u8 x]) ⟨true,some 5⟩)) bi (.vec 0 2 [.agg [.ref bi 0 0 0,.sl j (g+1) 1 0 (o.length+1) none]] ⟨false,some 84⟩)=oK 84 5 l bi j (g+1) (o++[c]):=by
  unfold oK;rw[hx,List.length_append,uT,List.map_append];rfl
 rw[e];exact⟨_,fun i ob h=>⟨IB (so hl Bk Di hne i ob h).1 h,so hl Bk Di hne i ob h⟩,.dZ,hk⟩
theorem zR{s:List UInt8}(hb:aV l bi=some (tF 84 bi j g o.length))(hj:aV l j=some (uT 5 g o))(Bk:bi<m)(Di:j<m)(hne:bi≠j)(hl:Qu l m)(hlen:o.length+s.length<=140737488355328)
  (hk: ∀g',R (.ret (.bn [.int .i64 s.length,.dZ])) ⟨m,oK 84 5 l bi j g' (o++s)⟩):aZ Tryz.prog 32 [.ref bi 0 0 0,.str s] ⟨m,l⟩ R:=by
 refine aZ.cut (Nat.le_refl m) (IE.call mixed rfl ?_);have q4:(Nat.beq bi bi&&Nat.beq 0 0&&(Nat.beq 0 0&&Nat.beq 0 0))=true:=by rw[iF];rfl
 have lit:Iy (.ret (.bn [.int .i64 s.length,.dZ])):=Dn (.int _ _) .dZ;by_cases h0:s=[]
 ·subst h0
  iterate 40 all_goals ((try conv=>whnf);try first|(with_reducible first|refine zY ?_|refine zN ?_|refine zT ?_|refine br (fun _=> ?_) (fun _=> ?_)|refine⟨rfl,?_⟩)|(refine yG.call mixed rfl ?_)|(with_reducible refine gm hb ?_)|(with_reducible refine gm hj ?_)|(refine zD (tE []) hj ?_)|(with_reducible refine sn ?_))
  have e:cO l bi (tF 84 bi j g o.length)=oK 84 5 l bi j g (o++[]):=by
   unfold oK;rw[List.append_nil,yD hj]
  refine⟨oK 84 5 l bi j g (o++[]),fun i ob h=>⟨?_,so hl Bk Di hne i ob h⟩,lit,hk g⟩;rw[<- e]at h;exact h
 ·have hpos:0<s.length:=by cases s with|nil=>exact absurd rfl h0|cons c r=>simp
  have q5:aV (cO l j (.vec (g+1) 1 (o.map uS++s.map uS) ⟨true,some 5⟩)) bi=some (tF 84 bi j g o.length):=by rw[dQ hne];exact hb
  iterate 40 all_goals ((try conv=>whnf);try first|(with_reducible first|refine zY ?_|refine zN ?_|refine zT ?_|refine br (fun _=> ?_) (fun _=> ?_)|refine⟨rfl,?_⟩)|(refine yG.call mixed rfl ?_)|(with_reducible refine gm hb ?_)|(with_reducible refine gm hj ?_)|(with_reducible refine gm q5 ?_)|(refine Dv hj hpos hlen ?_)|(with_reducible refine sn ?_))
  have e:cO (cO l j (.vec (g+1) 1 (o.map uS++s.map uS) ⟨true,some 5⟩)) bi (.vec 0 2 [.agg [.ref bi 0 0 0,.sl j (g+1) 1 0 (o.length+s.length) none]] ⟨false,some 84⟩)=oK 84 5 l bi j (g+1) (o++s):=by
   unfold oK;rw[List.length_append,uT,List.map_append]
  refine⟨oK 84 5 l bi j (g+1) (o++s),fun i ob h=>⟨?_,so hl Bk Di hne i ob h⟩,lit,hk _⟩;rw[<- e]at h;exact h
end
end
end Go.Proofs.YtbjifmbemdhndaaGreatDoor
