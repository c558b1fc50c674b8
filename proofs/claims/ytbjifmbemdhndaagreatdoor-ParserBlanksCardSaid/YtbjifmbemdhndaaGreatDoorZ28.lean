/- Parts of the proof of PParserBlanks, one behind the other, with short names. -/
import Derived.Test.YtbjifmbemdhndaaGreatDoorZ27
import Derived.Test.YtbjifmbemdhndaaGreatDoorZ21
set_option linter.unusedVariables false
set_option linter.unusedSimpArgs false
namespace Go.Proofs.YtbjifmbemdhndaaGreatDoor
open Ab Go.RowKit Go.Lib
set_option maxRecDepth 100000
set_option maxHeartbeats 4000000
attribute [local irreducible] bB cH Utf8.decode
theorem qG{n:Nat}{s:List UInt8}: ∀v∈s.map uS,SV.lt 8 n v=true:=by
 intro v hv;obtain⟨b,_,rfl⟩:=List.mem_map.1 hv;rfl
theorem lU{n:Nat}{u:SV}(h:SV.lt 8 n u=true): ∀v∈[u],SV.lt 8 n v=true:=by
 intro v hv;simp only[List.mem_singleton]at hv;subst hv;exact h
structure Xl(s:List UInt8)(pos:Nat)(buf:List UInt8)(bad JU:Bool):Prop where
 p1:1<pos
 pl:pos<=s.length
 b0:0<buf.length
 bl:buf.length<=pos
 go:JU=false-> ∃f,(s.drop pos).length<=f/\rY s=cA f (s.drop pos) pos bad buf
 go2:JU=true->pos<s.length/\s.getD pos 0=39/\ ∃f,(s.drop (pos+1)).length<=f/\rY s=cA f (s.drop (pos+1)) (pos+1) bad buf
inductive mg(s:List UInt8) where
 |A
 |B
 |C (fb:Bool) (pos g:Nat) (buf:List UInt8) (bad JU:Bool) (h:Xl s pos buf bad JU)
@[reducible] def Ov:aG:= .vec 0 2 [.agg [.fq,.ak]] ⟨false,some 84⟩
@[reducible] def zS:aG:= .vec 0 4 [me aC] ⟨false,some 57⟩
@[reducible] def mg.env {s:List UInt8}:mg s->Env
  | .A=>[(0,SV.str s),(2,SV.ref 0 0 0 0),(3,SV.int IntKind.i64 0),(4,SV.int IntKind.i64 0),(5,SV.ref 1 0 0 0),(6,SV.bool false),(7,SV.bool false),(13,SV.ref 2 0 0 0)]
  | .B=>[(0,SV.str s),(2,SV.ref 0 0 0 0),(3,SV.int IntKind.i64 0),(4,SV.int IntKind.i64 0),(5,SV.ref 1 0 0 0),(6,SV.bool false),(7,SV.bool false),(13,SV.ref 2 0 0 0)]
  | .C _ pos g buf bad JU _=>[(0,SV.str s),(2,SV.ref 0 0 0 0),(3,SV.int IntKind.i64 0),(4,SV.int IntKind.i64 0),(5,SV.ref 1 0 0 0),(6,SV.bool bad),(7,SV.bool JU),(13,SV.ref 2 0 0 0)]
@[reducible] def mg.hp {s:List UInt8}:mg s->Heap
  | .A=>⟨3,[(2,.iter s 0),(1,Ov),(0,zS)]⟩
  | .B=>⟨3,[(2,.iter s 1),(1,Ov),(0,zS)]⟩
  | .C false pos g buf bad JU _=>⟨4,[(3,uT 5 g buf),(2,.iter s pos),(1,tF 84 1 3 g buf.length),(0,zS)]⟩
  | .C true pos g buf bad JU _=>⟨5,[(4,uT 5 g buf),(3,.vec 0 1 [uS 39] ⟨false,some 5⟩),(2,.iter s pos),(1,tF 84 1 4 g buf.length),(0,zS)]⟩
def mg.mu{s:List UInt8}:mg s->Nat
 | .A=>s.length+2
 | .B=>s.length+1
 | .C _ pos _ _ _ _ _=>s.length-pos
def mg.nn{s:List UInt8}:mg s->Nat
 | .A=>3
 | .B=>if s.getD 1 0=39 then 5 else 4
 | .C false .. =>4
 | .C true .. =>5
theorem I1{p l:List UInt8}(h:p.length<=l.length):(l.take p.length==p)=p.isPrefixOf l:=by
 rw[Bool.eq_iff_iff,beq_iff_eq,List.isPrefixOf_iff_prefix,List.prefix_iff_eq_take];exact⟨fun h=>h.symm,fun h=>h.symm⟩
theorem qH{l p:List UInt8}(hp:p.length<=1000000):aj Tryz.prog 80 [.str l,.str p] (.bool (p.isPrefixOf l)):=by
 have h1:aj Tryz.prog 130 [.str l,.str p] (.bool (p.isPrefixOf l)):=by
  refine bQ (kE (.str _) (.str _)) (IK.call mixed rfl ?_);by_cases h:p.length<=l.length
  ·have hd:decide ((p.length:Int)<=(l.length:Int))=true:=decide_eq_true (by omega)
   iterate 12 all_goals ((try conv=>whnf);try first|(with_reducible first|refine zY ?_|refine zN ?_|refine zT ?_|refine br (fun _=> ?_) (fun _=> ?_)|refine⟨rfl,?_⟩))
   refine leaf ?_ (.bool _);rw[Int.toNat_natCast,show Int.toNat 0=0 from rfl,List.drop_zero,Nat.sub_zero,I1 h]
  ·have hd:decide ((p.length:Int)<=(l.length:Int))=false:=decide_eq_false (by omega)
   iterate 12 all_goals ((try conv=>whnf);try first|(with_reducible first|refine zY ?_|refine zN ?_|refine zT ?_|refine br (fun _=> ?_) (fun _=> ?_)|refine⟨rfl,?_⟩))
   refine leaf ?_ (.bool _)
   have:p.isPrefixOf l=false:=by
    rw[Bool.eq_false_iff,ne_eq,List.isPrefixOf_iff_prefix];exact fun h'=>h h'.length_le
   rw[this]
 refine bQ (kE (.str _) (.str _)) (Mk.call mixed rfl ?_);iterate 4 all_goals ((try conv=>whnf);try first|(with_reducible first|refine zY ?_|refine zN ?_|refine zT ?_|refine br (fun _=> ?_) (fun _=> ?_)|refine⟨rfl,?_⟩|refine aj.call (h1) ?_))
 exact leaf rfl (.bool _)
theorem wE{s:List UInt8}{pos:Nat}:List.take (((s.length:Nat):Int).toNat-((pos:Nat):Int).toNat) (List.drop ((pos:Nat):Int).toNat s)=s.drop pos:=by
 rw[Int.toNat_natCast,Int.toNat_natCast,List.take_of_length_le (by rw[List.length_drop];omega)]
theorem I2{s:List UInt8}{pos w:Nat}(h:pos+w<=1000000):List.take ((IntKind.i64.wrap ((pos:Int)+(w:Int))).toNat-((pos:Nat):Int).toNat) (List.drop ((pos:Nat):Int).toNat s)=(s.drop pos).take w:=by
 rw[w8 (by omega) (by omega),Int.toNat_natCast,show((pos:Int)+(w:Int)).toNat=pos+w by omega,Nat.add_sub_cancel_left]
theorem uE{s:List UInt8}{pos:Nat}(h:pos<s.length):aj Tryz.prog 91 [.str (List.take (((s.length:Nat):Int).toNat-((pos:Nat):Int).toNat) (List.drop ((pos:Nat):Int).toNat s))] (.bn [.int .i32 ((Utf8.decode ⟨s.toArray⟩ pos).1:Nat),.int .i64 ((Utf8.decode ⟨s.toArray⟩ pos).2:Nat)]):=by
 have e:Lib.decodeGo ⟨(s.drop pos).toArray⟩=Utf8.decode ⟨s.toArray⟩ pos:=by
  unfold Lib.decodeGo;rw[if_neg (by simp only[ByteArray.size,List.size_toArray,List.length_drop];omega),lR,lR,List.drop_zero]
 rw[wE,<-e];exact DC _
theorem uF{s:List UInt8}{pos:Nat}:aj Tryz.prog 80 [.str (List.take (((s.length:Nat):Int).toNat-((pos:Nat):Int).toNat) (List.drop ((pos:Nat):Int).toNat s)),.str [39,39]] (.bool (([39,39]:List UInt8).isPrefixOf (s.drop pos))):=by
 rw[wE];exact qH (by decide)
theorem I3{s t:List UInt8}{p:Nat}(h0:0<t.length)(ht:t.length<=1000000){R:cG->Heap->Prop}
  (hk:R (.ret (.bn [.int .i64 t.length,.dZ])) ⟨4,[(3,uT 5 0 t),(2,.iter s p),(1,tF 84 1 3 0 t.length),(0,zS)]⟩):
  aZ Tryz.prog 32 [.ref 1 0 0 0,.str t] ⟨3,[(2,.iter s p),(1,Ov),(0,zS)]⟩ R:=by
 refine IE.call mixed rfl ?_;iterate 10 all_goals ((try conv=>whnf);try first|(with_reducible first|refine zY ?_|refine zN ?_|refine zT ?_|refine br (fun _=> ?_) (fun _=> ?_)|refine⟨rfl,?_⟩)|(refine yG.call mixed rfl ?_)|(refine oc (tE _) (by simpa using h0) (q9 _) (by simp;omega) (by simp;omega) ?_))
 rw[List.length_map];exact hk
theorem Fv{m:Nat}{l:List (Nat×aG)}{bi j g:Nat}{o:List UInt8}{R:cG->Heap->Prop}(hb:aV l bi=some (tF 84 bi j g o.length))(hj:aV l j=some (uT 5 g o))(h0:0<o.length)(hlen:o.length<=9223372036854775807)
  (hk:R (.ret (.str o)) ⟨m,cO l j (.lB g 5 (o.map uS))⟩):aZ Tryz.prog 34 [.ref bi 0 0 0] ⟨m,l⟩ R:=by
 refine IG.call mixed rfl ?_;have q1:Nat.blt 0 o.length=true:=by rw[Nat.blt,Nat.ble_eq];exact h0
 have q2:(Nat.beq g g&&(Nat.beq 0 0&&Nat.beq 0 0)&&(Nat.beq 1 1&&Hy (Sk.ty ⟨true,some 5⟩) 5)&&(decide (0<(o.length:Int))&&decide ((o.length:Int)<=9223372036854775807)))=true:=by
  rw[iF,decide_eq_true (show 0<(o.length:Int) by omega),decide_eq_true (show(o.length:Int)<=9223372036854775807 by omega)];rfl
 have q3:Nat.beq g g=true:=iF g;have q4:Nat.beq j j=true:=iF j;iterate 40 all_goals ((try conv=>whnf);try first|(with_reducible first|refine zY ?_|refine zN ?_|refine zT ?_|refine br (fun _=> ?_) (fun _=> ?_)|refine⟨rfl,?_⟩)|(with_reducible refine gm hb ?_)|(with_reducible refine gm hj ?_)|(refine Gv (by simp) ?_)|(refine Dt ?_)|(with_reducible refine sn ?_))
 exact hk
theorem Ow{s:List UInt8}{p g n:Nat}{buf:List UInt8}:Qu [(3,uT 5 g buf),(2,.iter s p),(1,tF 84 1 3 g n),(0,zS)] 4:=by
 intro i ob h;unfold aV at h;split at h
 ·cases h;rename_i h;subst h;exact⟨by omega,wz⟩
 unfold aV at h;split at h
 ·cases h;rename_i h;subst h;exact⟨by omega,trivial⟩
 unfold aV at h;split at h
 ·cases h;rename_i h;subst h;exact⟨by omega,fun v hv=>by simp only[List.mem_singleton]at hv;subst hv;rfl⟩
 unfold aV at h;split at h
 ·cases h;rename_i h;subst h;exact⟨by omega,fun v hv=>by simp only[List.mem_singleton]at hv;subst hv;rfl⟩
 ·cases h
theorem Ox{s:List UInt8}{p g n:Nat}{buf:List UInt8}:Qu [(4,uT 5 g buf),(3,.vec 0 1 [uS 39] ⟨false,some 5⟩),(2,.iter s p),(1,tF 84 1 4 g n),(0,zS)] 5:=by
 intro i ob h;unfold aV at h;split at h
 ·cases h;rename_i h;subst h;exact⟨by omega,wz⟩
 unfold aV at h;split at h
 ·cases h;rename_i h;subst h;exact⟨by omega,fun v hv=>by simp only[List.mem_singleton]at hv;subst hv;rfl⟩
 unfold aV at h;split at h
 ·cases h;rename_i h;subst h;exact⟨by omega,trivial⟩
 unfold aV at h;split at h
 ·cases h;rename_i h;subst h;exact⟨by omega,fun v hv=>by simp only[List.mem_singleton]at hv;subst hv;rfl⟩
 unfold aV at h;split at h
 ·cases h;rename_i h;subst h;exact⟨by omega,fun v hv=>by simp only[List.mem_singleton]at hv;subst hv;rfl⟩
 ·cases h
theorem I4{s:List UInt8}(hs:s.length<=100000)(hq:s.getD 0 0=39)(hne:s≠[]):aj Tryz.prog 78 [.str s] (xD (rY s)):=by
 refine bQ (cZ (.str _)) (RR.call mixed rfl ?_);have hpos:0<s.length:=by cases s with|nil=>exact absurd rfl hne|cons c r=>simp
 have start:rY s=cA s.length (s.drop 1) 1 false []:=rfl;iterate 8 all_goals ((try conv=>whnf);try first|(with_reducible first|refine zY ?_|refine zN ?_|refine zT ?_|refine br (fun _=> ?_) (fun _=> ?_)|refine⟨rfl,?_⟩))
 refine ig (σ:=mg s) mg.env mg.hp mg.mu mg.nn (fun x=>match x with| .A=>Nat.le_refl 3| .B=>(by show 3<=if s.getD 1 0=39 then 5 else 4;split<;>decide)| .C false .. =>Nat.le_refl 4| .C true .. =>Nat.le_refl 5) ?_ .A;rintro(_|_|⟨fb,pos,g,buf,bad,JU,hI⟩)
 ·have hd0:Utf8.decode ⟨s.toArray⟩ 0=(39,1):=by
   rw[lR,List.drop_zero];cases s with
   |nil=>exact absurd rfl hne
   |cons c r=>obtain rfl:c=39:=hq;exact qc r
  have hb:Nat.blt 0 s.length=true:=by rw[Nat.blt,Nat.ble_eq];exact hpos
  iterate 16 all_goals ((try conv=>whnf);try first|(with_reducible first|refine zY ?_|refine zN ?_|refine zT ?_|refine br (fun _=> ?_) (fun _=> ?_)|refine⟨rfl,?_⟩))
  exact⟨.B,by simp[mg.mu],rfl,by rw[hd0];rfl⟩
 ·by_cases hl:1<s.length
  ·have hd1:=lR s 1
   have hb:Nat.blt 1 s.length=true:=by rw[Nat.blt,Nat.ble_eq];exact hl
   have x8:=drop_cons hl;have cd:=uE hl;have cp:=uF (s:=s) (pos:=1);have hb0:(((1:Nat):Int)==0)=false:=rfl;have hdl:(s.drop 1).length=s.length-1:=List.length_drop;by_cases hc:s.getD 1 0=39
   ·rw[show mg.nn (mg.B:mg s)=5 from if_pos hc]
    have hD:Utf8.decode ⟨s.toArray⟩ 1=(39,1):=by rw[hd1,x8,hc,qc]
    have hR:(((Utf8.decode ⟨s.toArray⟩ 1).1:Int)!=39)=false:=by rw[hD];rfl
    iterate 40 all_goals ((try conv=>whnf);try first|(with_reducible first|refine zY ?_|refine zN ?_|refine zT ?_|refine br (fun _=> ?_) (fun _=> ?_)|refine⟨rfl,?_⟩|refine aj.call (cd) ?_|refine aj.call (cp) ?_)|(refine IF.call mixed rfl ?_)|(refine yG.call mixed rfl ?_)|(refine oc (xs:=[uS 39]) (lz kW rfl) (by decide) rfl (by decide) (by decide) ?_)|(refine Dx.call mixed rfl ?_)|(refine IG.call mixed rfl ?_)|(refine aN qG ?_)|(refine aN (lU rfl) ?_))
    ·have hpre:=List.isPrefixOf_iff_prefix.1 (by assumption:([39,39]:List UInt8).isPrefixOf (s.drop 1)=true)
     have xZ:2<s.length:=by have:=hpre.length_le;simp only[List.length_cons,List.length_nil]at this;omega
     have S0:s.getD 2 0=39:=by
      obtain⟨t,ht⟩:=hpre;have:(s.drop 1).getD 1 0=39:=by rw[<- ht];rfl
      simpa[List.getD,List.getElem?_drop]using this
     refine⟨.C true 2 0 [39] false true ⟨by omega,by omega,by simp,by simp,fun h=>(by cases h),fun _=>⟨xZ,S0,s.length-1,by rw[List.length_drop];omega,?_⟩⟩,by simp only[mg.mu];omega,rfl,by rw[hD];rfl⟩;obtain⟨f,hf⟩: ∃f,s.length=f+1:=⟨s.length-1,by omega⟩;rw[start,hf,x8,hc,cA,if_neg (by simp),drop_cons xZ,if_pos (by exact S0)];rfl
    ·have hnp:=(by assumption:([39,39]:List UInt8).isPrefixOf (s.drop 1)=false)
     refine leaf ?_ (di _);obtain⟨f,hf⟩: ∃f,s.length=f+1:=⟨s.length-1,by omega⟩
     have hn2: ¬(s.drop 2).getD 0 0=39:=fun h=>by
      rw[x8,hc]at hnp;cases he:s.drop 2 with
      |nil=>rw[he]at h;exact absurd h (by decide)
      |cons a r=>
       rw[he]at h;obtain rfl:a=39:=h;rw[he]at hnp;simp[List.isPrefixOf]at hnp
     rw[start,hf,x8,hc,cA,if_neg (by simp),if_neg hn2];rfl
   ·rw[show mg.nn (mg.B:mg s)=4 from if_neg hc]
    have Oy:=Bx (r:=s.drop 2) hc;rw[<- x8,<-hd1]at Oy;have hw1:=decodeL_width (s.drop 1);have R7:=decodeL_le (s.drop 1) (by rw[x8];simp);rw[<- hd1]at hw1 R7;have hR:(((Utf8.decode ⟨s.toArray⟩ 1).1:Int)!=39)=true:=by rw[bne_iff_ne];omega
    have ew:=I2 (s:=s) (pos:=1) (w:=(Utf8.decode ⟨s.toArray⟩ 1).2) (by rw[List.length_drop]at R7;omega)
    have es:(decide (0<=((1:Nat):Int))&&decide (((1:Nat):Int)<=IntKind.i64.wrap (((1:Nat):Int)+((Utf8.decode ⟨s.toArray⟩ 1).2:Int)))&&decide (IntKind.i64.wrap (((1:Nat):Int)+((Utf8.decode ⟨s.toArray⟩ 1).2:Int))<=((s.length:Nat):Int)))=true:=by
     rw[List.length_drop]at R7;rw[w8 (by omega) (by omega)];simp only[Bool.and_eq_true,decide_eq_true_eq];omega
    iterate 40 all_goals ((try conv=>whnf);try first|(with_reducible first|refine zY ?_|refine zN ?_|refine zT ?_|refine br (fun _=> ?_) (fun _=> ?_)|refine⟨rfl,?_⟩|refine aj.call (cd) ?_|refine aj.call (cp) ?_)|(rw[ew];refine I3 (by rw[List.length_take];omega) (by rw[List.length_take];omega) ?_)|(refine aN qG ?_)|(refine aN (lU rfl) ?_))
    all_goals
     obtain⟨f,hf⟩: ∃f,s.length=f+1:=⟨s.length-1,by omega⟩;have hgo:=uA (f:=f) (i:=1) (l:=s.drop 1) (buf:=[]) (bad:=false) (by rw[x8];simp) (by rw[cV];exact hc);rw[<- hf,<-start,<-hd1,List.nil_append,Bool.false_or,List.drop_drop]at hgo
    ·have hr:=(by assumption:(((Utf8.decode ⟨s.toArray⟩ 1).1:Int)==65533)=true)
     have e1:((Utf8.decode ⟨s.toArray⟩ 1).1==65533)=true:=by rw[<- kU];exact hr
     have e2:(((Utf8.decode ⟨s.toArray⟩ 1).2:Int)==1)=((Utf8.decode ⟨s.toArray⟩ 1).2==1):=kU _ 1;rw[e1,Bool.true_and]at hgo;refine⟨.C false (1+(Utf8.decode ⟨s.toArray⟩ 1).2) 0 ((s.drop 1).take (Utf8.decode ⟨s.toArray⟩ 1).2) ((Utf8.decode ⟨s.toArray⟩ 1).2==1) false ⟨by omega,by omega,by rw[List.length_take];omega,by rw[List.length_take];omega,fun _=>⟨f,by rw[List.length_drop];omega,hgo⟩,fun h=>(by cases h)⟩,by simp only[mg.mu];omega,by rw[e2],rfl⟩
    ·have hr:=(by assumption:(((Utf8.decode ⟨s.toArray⟩ 1).1:Int)==65533)=false)
     have e1:((Utf8.decode ⟨s.toArray⟩ 1).1==65533)=false:=by rw[<- kU];exact hr
     rw[e1,Bool.false_and]at hgo;refine⟨.C false (1+(Utf8.decode ⟨s.toArray⟩ 1).2) 0 ((s.drop 1).take (Utf8.decode ⟨s.toArray⟩ 1).2) false false ⟨by omega,by omega,by rw[List.length_take];omega,by rw[List.length_take];omega,fun _=>⟨f,by rw[List.length_drop];omega,hgo⟩,fun h=>(by cases h)⟩,by simp only[mg.mu];omega,rfl,rfl⟩
  ·have hb:Nat.blt 1 s.length=false:=by rw[Bool.eq_false_iff,ne_eq,Nat.blt,Nat.ble_eq];exact hl
   iterate 24 all_goals ((try conv=>whnf);try first|(with_reducible first|refine zY ?_|refine zN ?_|refine zT ?_|refine br (fun _=> ?_) (fun _=> ?_)|refine⟨rfl,?_⟩))
   refine leaf ?_ (di _);rw[start,List.drop_of_length_le (by omega)];cases s with
   |nil=>exact absurd rfl hne
   |cons c r=>rfl
 ·have hdl:(s.drop pos).length=s.length-pos:=List.length_drop
  have p1:=hI.p1;have pl:=hI.pl;have b0:=hI.b0;have bl:=hI.bl;have hd1:=lR s pos;have hb0:((pos:Int)==0)=false:=by rw[beq_eq_false_iff_ne];omega
  have qg:Nat.beq g g=true:=iF g;cases JU with
  |true=>
   obtain⟨hl,hq1,f,hf,hgo⟩:=hI.go2 rfl;have hD:Utf8.decode ⟨s.toArray⟩ pos=(39,1):=by rw[hd1,drop_cons hl,hq1,qc]
   have hb:Nat.blt pos s.length=true:=by rw[Nat.blt,Nat.ble_eq];exact hl
   cases fb with
   |false=>
    rw[show mg.nn (mg.C false pos g buf bad true hI)=4 from rfl];iterate 20 all_goals ((try conv=>whnf);try first|(with_reducible first|refine zY ?_|refine zN ?_|refine zT ?_|refine br (fun _=> ?_) (fun _=> ?_)|refine⟨rfl,?_⟩)|(refine aN qG ?_))
    refine⟨.C false (pos+1) g buf bad false ⟨by omega,by omega,b0,by omega,fun _=>⟨f,hf,hgo⟩,fun h=>(by cases h)⟩,by simp only[mg.mu];omega,rfl,by rw[hD]⟩
   |true=>
    rw[show mg.nn (mg.C true pos g buf bad true hI)=5 from rfl];iterate 20 all_goals ((try conv=>whnf);try first|(with_reducible first|refine zY ?_|refine zN ?_|refine zT ?_|refine br (fun _=> ?_) (fun _=> ?_)|refine⟨rfl,?_⟩)|(refine aN qG ?_)|(refine aN (lU rfl) ?_))
    refine⟨.C true (pos+1) g buf bad false ⟨by omega,by omega,b0,by omega,fun _=>⟨f,hf,hgo⟩,fun h=>(by cases h)⟩,by simp only[mg.mu];omega,rfl,by rw[hD]⟩
  |false=>
   obtain⟨f,hf,hgo⟩:=hI.go rfl;by_cases hl:pos<s.length
   ·have hb:Nat.blt pos s.length=true:=by rw[Nat.blt,Nat.ble_eq];exact hl
    have x8:=drop_cons hl;have cd:=uE hl;have cp:=uF (s:=s) (pos:=pos);obtain⟨f,rfl⟩: ∃f',f=f'+1:=⟨f-1,by omega⟩;by_cases hc:s.getD pos 0=39
    ·have hD:Utf8.decode ⟨s.toArray⟩ pos=(39,1):=by rw[hd1,x8,hc,qc]
     have hR:(((Utf8.decode ⟨s.toArray⟩ pos).1:Int)!=39)=false:=by rw[hD];rfl
     cases fb
     ·rw[show mg.nn (mg.C false pos g buf bad false hI)=4 from rfl]
      by_cases hq1:s.getD (pos+1) 0=39
      ·have hpre:([39,39]:List UInt8).isPrefixOf (s.drop pos)=true:=zB.2 ⟨by rw[cV];exact hc,by rw[cV];exact hq1⟩
       have xZ:pos+1<s.length:=by
        rcases Nat.lt_or_ge (pos+1) s.length with h|h
        ·exact h
        ·exfalso;revert hq1;simp[List.getD,List.getElem?_eq_none h]
       have tM:=wq (f:=f) (i:=pos) (l:=s.drop pos) (buf:=buf) (bad:=bad) (by rw[cV];exact hc) (by rw[cV];exact hq1);rw[<- hgo,List.drop_drop]at tM;iterate 40 all_goals ((try conv=>whnf);try first|(with_reducible first|refine zY ?_|refine zN ?_|refine zT ?_|refine br (fun _=> ?_) (fun _=> ?_)|refine⟨rfl,?_⟩|refine aj.call (cp) ?_)|(refine I0 (bi:=1) (j:=3) (g:=g) (o:=buf) (c:=39) rfl rfl rfl (by omega) (by omega) (by omega) Ow (by omega) ?_)|(refine aN qG ?_)|(refine aN (lU rfl) ?_))
       refine⟨.C false (pos+1) (g+1) (buf++[39]) bad true ⟨by omega,by omega,by simp,by simp;omega,fun h=>(by cases h),fun _=>⟨xZ,hq1,f,by rw[List.length_drop]at hf ⊢;omega,tM⟩⟩,by simp only[mg.mu];omega,rfl,by rw[hD];rfl⟩
      ·have hpre:([39,39]:List UInt8).isPrefixOf (s.drop pos)=false:=by
        rw[Bool.eq_false_iff,ne_eq,zB,cV,cV];exact fun h=>hq1 h.2
       have tM:=wu (f:=f) (i:=pos) (l:=s.drop pos) (buf:=buf) (bad:=bad) (by rw[cV];exact hc) (by rw[cV];exact hq1);rw[<- hgo]at tM;cases bad with
       |true=>
        iterate 40 all_goals ((try conv=>whnf);try first|(with_reducible first|refine zY ?_|refine zN ?_|refine zT ?_|refine br (fun _=> ?_) (fun _=> ?_)|refine⟨rfl,?_⟩|refine aj.call (cp) ?_))
        exact leaf (by rw[tM];rfl) (di _)
       |false=>
        iterate 40 all_goals ((try conv=>whnf);try first|(with_reducible first|refine zY ?_|refine zN ?_|refine zT ?_|refine br (fun _=> ?_) (fun _=> ?_)|refine⟨rfl,?_⟩|refine aj.call (cp) ?_)|(refine Dx.call mixed rfl ?_)|(refine Fv (bi:=1) (j:=3) (g:=g) (o:=buf) rfl rfl b0 (by omega) ?_))
        ·have h:=of_decide_eq_true (by assumption:decide ((64:Int)<((buf.length:Nat):Int))=true)
         exact leaf (by rw[tM,if_neg (by decide),if_pos (by omega)];rfl) (di _)
        ·have h:=of_decide_eq_false (by assumption:decide ((64:Int)<((buf.length:Nat):Int))=false)
         exact leaf (by rw[tM,if_neg (by decide),if_neg (by omega),bN (by omega)];rfl) (di _)
     ·rw[show mg.nn (mg.C true pos g buf bad false hI)=5 from rfl]
      by_cases hq1:s.getD (pos+1) 0=39
      ·have hpre:([39,39]:List UInt8).isPrefixOf (s.drop pos)=true:=zB.2 ⟨by rw[cV];exact hc,by rw[cV];exact hq1⟩
       have xZ:pos+1<s.length:=by
        rcases Nat.lt_or_ge (pos+1) s.length with h|h
        ·exact h
        ·exfalso;revert hq1;simp[List.getD,List.getElem?_eq_none h]
       have tM:=wq (f:=f) (i:=pos) (l:=s.drop pos) (buf:=buf) (bad:=bad) (by rw[cV];exact hc) (by rw[cV];exact hq1);rw[<- hgo,List.drop_drop]at tM;iterate 40 all_goals ((try conv=>whnf);try first|(with_reducible first|refine zY ?_|refine zN ?_|refine zT ?_|refine br (fun _=> ?_) (fun _=> ?_)|refine⟨rfl,?_⟩|refine aj.call (cp) ?_)|(refine I0 (bi:=1) (j:=4) (g:=g) (o:=buf) (c:=39) rfl rfl rfl (by omega) (by omega) (by omega) Ox (by omega) ?_)|(refine aN qG ?_)|(refine aN (lU rfl) ?_))
       refine⟨.C true (pos+1) (g+1) (buf++[39]) bad true ⟨by omega,by omega,by simp,by simp;omega,fun h=>(by cases h),fun _=>⟨xZ,hq1,f,by rw[List.length_drop]at hf ⊢;omega,tM⟩⟩,by simp only[mg.mu];omega,rfl,by rw[hD];rfl⟩
      ·have hpre:([39,39]:List UInt8).isPrefixOf (s.drop pos)=false:=by
        rw[Bool.eq_false_iff,ne_eq,zB,cV,cV];exact fun h=>hq1 h.2
       have tM:=wu (f:=f) (i:=pos) (l:=s.drop pos) (buf:=buf) (bad:=bad) (by rw[cV];exact hc) (by rw[cV];exact hq1);rw[<- hgo]at tM;cases bad with
       |true=>
        iterate 40 all_goals ((try conv=>whnf);try first|(with_reducible first|refine zY ?_|refine zN ?_|refine zT ?_|refine br (fun _=> ?_) (fun _=> ?_)|refine⟨rfl,?_⟩|refine aj.call (cp) ?_))
        exact leaf (by rw[tM];rfl) (di _)
       |false=>
        iterate 40 all_goals ((try conv=>whnf);try first|(with_reducible first|refine zY ?_|refine zN ?_|refine zT ?_|refine br (fun _=> ?_) (fun _=> ?_)|refine⟨rfl,?_⟩|refine aj.call (cp) ?_)|(refine Dx.call mixed rfl ?_)|(refine Fv (bi:=1) (j:=4) (g:=g) (o:=buf) rfl rfl b0 (by omega) ?_))
        ·have h:=of_decide_eq_true (by assumption:decide ((64:Int)<((buf.length:Nat):Int))=true)
         exact leaf (by rw[tM,if_neg (by decide),if_pos (by omega)];rfl) (di _)
        ·have h:=of_decide_eq_false (by assumption:decide ((64:Int)<((buf.length:Nat):Int))=false)
         exact leaf (by rw[tM,if_neg (by decide),if_neg (by omega),bN (by omega)];rfl) (di _)
    ·have Oy:=Bx (r:=s.drop (pos+1)) hc
     rw[<- x8,<-hd1]at Oy;have hw1:=decodeL_width (s.drop pos);have R7:=decodeL_le (s.drop pos) (by rw[x8];simp);rw[<- hd1]at hw1 R7;have hR:(((Utf8.decode ⟨s.toArray⟩ pos).1:Int)!=39)=true:=by rw[bne_iff_ne];omega
     have ew:=I2 (s:=s) (pos:=pos) (w:=(Utf8.decode ⟨s.toArray⟩ pos).2) (by omega)
     have es:(decide (0<=((pos:Nat):Int))&&decide (((pos:Nat):Int)<=IntKind.i64.wrap (((pos:Nat):Int)+((Utf8.decode ⟨s.toArray⟩ pos).2:Int)))&&decide (IntKind.i64.wrap (((pos:Nat):Int)+((Utf8.decode ⟨s.toArray⟩ pos).2:Int))<=((s.length:Nat):Int)))=true:=by
      rw[w8 (by omega) (by omega)];simp only[Bool.and_eq_true,decide_eq_true_eq];omega
     have tM:=uA (f:=f) (i:=pos) (l:=s.drop pos) (buf:=buf) (bad:=bad) (by rw[x8];simp) (by rw[cV];exact hc);rw[<- hgo,<-hd1,List.drop_drop]at tM;cases fb
     ·rw[show mg.nn (mg.C false pos g buf bad false hI)=4 from rfl]
      cases bad with
      |true=>
       iterate 40 all_goals ((try conv=>whnf);try first|(with_reducible first|refine zY ?_|refine zN ?_|refine zT ?_|refine br (fun _=> ?_) (fun _=> ?_)|refine⟨rfl,?_⟩|refine aj.call (cd) ?_)|(rw[ew];refine zR (bi:=1) (j:=3) (g:=g) (o:=buf) rfl rfl (by omega) (by omega) (by omega) Ow (by rw[List.length_take];omega) (fun g'=> ?_))|(refine aN qG ?_)|(refine aN (lU rfl) ?_))
       refine⟨.C false (pos+(Utf8.decode ⟨s.toArray⟩ pos).2) g' (buf++(s.drop pos).take (Utf8.decode ⟨s.toArray⟩ pos).2) true false ⟨by omega,by omega,by rw[List.length_append];omega,by rw[List.length_append,List.length_take];omega,fun _=>⟨f,by rw[List.length_drop]at hf ⊢;omega,tM⟩,fun h=>(by cases h)⟩,by simp only[mg.mu];omega,rfl,rfl⟩
      |false=>
       iterate 40 all_goals ((try conv=>whnf);try first|(with_reducible first|refine zY ?_|refine zN ?_|refine zT ?_|refine br (fun _=> ?_) (fun _=> ?_)|refine⟨rfl,?_⟩|refine aj.call (cd) ?_)|(rw[ew];refine zR (bi:=1) (j:=3) (g:=g) (o:=buf) rfl rfl (by omega) (by omega) (by omega) Ow (by rw[List.length_take];omega) (fun g'=> ?_))|(refine aN qG ?_)|(refine aN (lU rfl) ?_))
       ·have hr:=(by assumption:(((Utf8.decode ⟨s.toArray⟩ pos).1:Int)==65533)=true)
        have e1:((Utf8.decode ⟨s.toArray⟩ pos).1==65533)=true:=by rw[<- kU];exact hr
        have e2:(((Utf8.decode ⟨s.toArray⟩ pos).2:Int)==1)=((Utf8.decode ⟨s.toArray⟩ pos).2==1):=kU _ 1;rw[Bool.false_or,e1,Bool.true_and]at tM;refine⟨.C false (pos+(Utf8.decode ⟨s.toArray⟩ pos).2) g' (buf++(s.drop pos).take (Utf8.decode ⟨s.toArray⟩ pos).2) ((Utf8.decode ⟨s.toArray⟩ pos).2==1) false ⟨by omega,by omega,by rw[List.length_append];omega,by rw[List.length_append,List.length_take];omega,fun _=>⟨f,by rw[List.length_drop]at hf ⊢;omega,tM⟩,fun h=>(by cases h)⟩,by simp only[mg.mu];omega,by rw[e2],rfl⟩
       ·have hr:=(by assumption:(((Utf8.decode ⟨s.toArray⟩ pos).1:Int)==65533)=false)
        have e1:((Utf8.decode ⟨s.toArray⟩ pos).1==65533)=false:=by rw[<- kU];exact hr
        rw[Bool.false_or,e1,Bool.false_and]at tM;refine⟨.C false (pos+(Utf8.decode ⟨s.toArray⟩ pos).2) g' (buf++(s.drop pos).take (Utf8.decode ⟨s.toArray⟩ pos).2) false false ⟨by omega,by omega,by rw[List.length_append];omega,by rw[List.length_append,List.length_take];omega,fun _=>⟨f,by rw[List.length_drop]at hf ⊢;omega,tM⟩,fun h=>(by cases h)⟩,by simp only[mg.mu];omega,rfl,rfl⟩
     ·rw[show mg.nn (mg.C true pos g buf bad false hI)=5 from rfl]
      cases bad with
      |true=>
       iterate 40 all_goals ((try conv=>whnf);try first|(with_reducible first|refine zY ?_|refine zN ?_|refine zT ?_|refine br (fun _=> ?_) (fun _=> ?_)|refine⟨rfl,?_⟩|refine aj.call (cd) ?_)|(rw[ew];refine zR (bi:=1) (j:=4) (g:=g) (o:=buf) rfl rfl (by omega) (by omega) (by omega) Ox (by rw[List.length_take];omega) (fun g'=> ?_))|(refine aN qG ?_)|(refine aN (lU rfl) ?_))
       refine⟨.C true (pos+(Utf8.decode ⟨s.toArray⟩ pos).2) g' (buf++(s.drop pos).take (Utf8.decode ⟨s.toArray⟩ pos).2) true false ⟨by omega,by omega,by rw[List.length_append];omega,by rw[List.length_append,List.length_take];omega,fun _=>⟨f,by rw[List.length_drop]at hf ⊢;omega,tM⟩,fun h=>(by cases h)⟩,by simp only[mg.mu];omega,rfl,rfl⟩
      |false=>
       iterate 40 all_goals ((try conv=>whnf);try first|(with_reducible first|refine zY ?_|refine zN ?_|refine zT ?_|refine br (fun _=> ?_) (fun _=> ?_)|refine⟨rfl,?_⟩|refine aj.call (cd) ?_)|(rw[ew];refine zR (bi:=1) (j:=4) (g:=g) (o:=buf) rfl rfl (by omega) (by omega) (by omega) Ox (by rw[List.length_take];omega) (fun g'=> ?_))|(refine aN qG ?_)|(refine aN (lU rfl) ?_))
       ·have hr:=(by assumption:(((Utf8.decode ⟨s.toArray⟩ pos).1:Int)==65533)=true)
        have e1:((Utf8.decode ⟨s.toArray⟩ pos).1==65533)=true:=by rw[<- kU];exact hr
        have e2:(((Utf8.decode ⟨s.toArray⟩ pos).2:Int)==1)=((Utf8.decode ⟨s.toArray⟩ pos).2==1):=kU _ 1;rw[Bool.false_or,e1,Bool.true_and]at tM;refine⟨.C true (pos+(Utf8.decode ⟨s.toArray⟩ pos).2) g' (buf++(s.drop pos).take (Utf8.decode ⟨s.toArray⟩ pos).2) ((Utf8.decode ⟨s.toArray⟩ pos).2==1) false ⟨by omega,by omega,by rw[List.length_append];omega,by rw[List.length_append,List.length_take];omega,fun _=>⟨f,by rw[List.length_drop]at hf ⊢;omega,tM⟩,fun h=>(by cases h)⟩,by simp only[mg.mu];omega,by rw[e2],rfl⟩
       ·have hr:=(by assumption:(((Utf8.decode ⟨s.toArray⟩ pos).1:Int)==65533)=false)
        have e1:((Utf8.decode ⟨s.toArray⟩ pos).1==65533)=false:=by rw[<- kU];exact hr
        rw[Bool.false_or,e1,Bool.false_and]at tM;refine⟨.C true (pos+(Utf8.decode ⟨s.toArray⟩ pos).2) g' (buf++(s.drop pos).take (Utf8.decode ⟨s.toArray⟩ pos).2) false false ⟨by omega,by omega,by rw[List.length_append];omega,by rw[List.length_append,List.length_take];omega,fun _=>⟨f,by rw[List.length_drop]at hf ⊢;omega,tM⟩,fun h=>(by cases h)⟩,by simp only[mg.mu];omega,rfl,rfl⟩
   ·have hb:Nat.blt pos s.length=false:=by rw[Bool.eq_false_iff,ne_eq,Nat.blt,Nat.ble_eq];exact hl
    rw[List.drop_of_length_le (by omega),Dr]at hgo;cases fb<;>iterate 24 all_goals ((try conv=>whnf);try first|(with_reducible first|refine zY ?_|refine zN ?_|refine zT ?_|refine br (fun _=> ?_) (fun _=> ?_)|refine⟨rfl,?_⟩))
    all_goals exact leaf (by rw[hgo];rfl) (di _)
end Go.Proofs.YtbjifmbemdhndaaGreatDoor
