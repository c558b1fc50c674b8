/- Parts of the proof of PCatalogBack, one behind the other, with short names. -/
import Derived.Test.YtegmnocpkgpgeaaGreatDoorZ27
set_option linter.unusedVariables false
set_option linter.unusedSimpArgs false
namespace Go.Proofs.YtegmnocpkgpgeaaGreatDoor
open Ab Go.RowKit Go.Lib
set_option maxRecDepth 100000
set_option maxHeartbeats 4000000
attribute [local irreducible] aS bH Utf8.decode
theorem qY{n:Nat}{s:List UInt8}: ∀v∈s.map tw,SV.lt 8 n v=true:=by
 intro v hv;obtain⟨b,_,rfl⟩:=List.mem_map.1 hv;rfl
theorem fN{n:Nat}{u:SV}(h:SV.lt 8 n u=true): ∀v∈[u],SV.lt 8 n v=true:=by
 intro v hv;simp only[List.mem_singleton]at hv;subst hv;exact h
structure TxI(s:List UInt8)(pos:Nat)(buf:List UInt8)(bad MX:Bool):Prop where
 p1:1<pos
 pl:pos<=s.length
 b0:0<buf.length
 bl:buf.length<=pos
 go:MX=false-> ∃f,(s.drop pos).length<=f/\nW s=bX f (s.drop pos) pos bad buf
 go2:MX=true->pos<s.length/\s.getD pos 0=39/\ ∃f,(s.drop (pos+1)).length<=f/\nW s=bX f (s.drop (pos+1)) (pos+1) bad buf
inductive mg(s:List UInt8) where
 |A
 |B
 |C (fb:Bool) (pos g:Nat) (buf:List UInt8) (bad MX:Bool) (h:TxI s pos buf bad MX)
@[reducible] def Ss:ai:= .vec 0 2 [.agg [.eM,.af]] ⟨false,some 99⟩
@[reducible] def AZ:ai:= .vec 0 4 [iF bG] ⟨false,some 176⟩
@[reducible] def mg.env {s:List UInt8}:mg s->Env
  | .A=>[(0,SV.str s),(2,SV.ref 0 0 0 0),(3,SV.int IntKind.i64 0),(4,SV.int IntKind.i64 0),(5,SV.ref 1 0 0 0),(6,SV.bool false),(7,SV.bool false),(13,SV.ref 2 0 0 0)]
  | .B=>[(0,SV.str s),(2,SV.ref 0 0 0 0),(3,SV.int IntKind.i64 0),(4,SV.int IntKind.i64 0),(5,SV.ref 1 0 0 0),(6,SV.bool false),(7,SV.bool false),(13,SV.ref 2 0 0 0)]
  | .C _ pos g buf bad MX _=>[(0,SV.str s),(2,SV.ref 0 0 0 0),(3,SV.int IntKind.i64 0),(4,SV.int IntKind.i64 0),(5,SV.ref 1 0 0 0),(6,SV.bool bad),(7,SV.bool MX),(13,SV.ref 2 0 0 0)]
@[reducible] def mg.hp {s:List UInt8}:mg s->Heap
  | .A=>⟨3,[(2,.iter s 0),(1,Ss),(0,AZ)]⟩
  | .B=>⟨3,[(2,.iter s 1),(1,Ss),(0,AZ)]⟩
  | .C false pos g buf bad MX _=>⟨4,[(3,mV 5 g buf),(2,.iter s pos),(1,mU 99 1 3 g buf.length),(0,AZ)]⟩
  | .C true pos g buf bad MX _=>⟨5,[(4,mV 5 g buf),(3,.vec 0 1 [tw 39] ⟨false,some 5⟩),(2,.iter s pos),(1,mU 99 1 4 g buf.length),(0,AZ)]⟩
def mg.mu{s:List UInt8}:mg s->Nat
 | .A=>s.length+2
 | .B=>s.length+1
 | .C _ pos _ _ _ _ _=>s.length-pos
def mg.nn{s:List UInt8}:mg s->Nat
 | .A=>3
 | .B=>if s.getD 1 0=39 then 5 else 4
 | .C false .. =>4
 | .C true .. =>5
theorem K2{p l:List UInt8}(h:p.length<=l.length):(l.take p.length==p)=p.isPrefixOf l:=by
 rw[Bool.eq_iff_iff,beq_iff_eq,List.isPrefixOf_iff_prefix,List.prefix_iff_eq_take];exact⟨fun h=>h.symm,fun h=>h.symm⟩
theorem qZ{l p:List UInt8}(hp:p.length<=1000000):aj Tryz.prog 149 [.str l,.str p] (.bool (p.isPrefixOf l)):=by
 have h1:aj Tryz.prog 188 [.str l,.str p] (.bool (p.isPrefixOf l)):=by
  refine aG (cP (.str _) (.str _)) (RR.call mixed rfl ?_);by_cases h:p.length<=l.length
  ·have hd:decide ((p.length:Int)<=(l.length:Int))=true:=decide_eq_true (by omega)
   iterate 12 all_goals ((try conv=>whnf);try first|(with_reducible first|refine zY ?_|refine zN ?_|refine zT ?_|refine br (fun _=> ?_) (fun _=> ?_)|refine⟨rfl,?_⟩))
   refine leaf ?_ (.bool _);rw[Int.toNat_natCast,show Int.toNat 0=0 from rfl,List.drop_zero,Nat.sub_zero,K2 h]
  ·have hd:decide ((p.length:Int)<=(l.length:Int))=false:=decide_eq_false (by omega)
   iterate 12 all_goals ((try conv=>whnf);try first|(with_reducible first|refine zY ?_|refine zN ?_|refine zT ?_|refine br (fun _=> ?_) (fun _=> ?_)|refine⟨rfl,?_⟩))
   refine leaf ?_ (.bool _)
   have:p.isPrefixOf l=false:=by
    rw[Bool.eq_false_iff,ne_eq,List.isPrefixOf_iff_prefix];exact fun h'=>h h'.length_le
   rw[this]
 refine aG (cP (.str _) (.str _)) (Ru.call mixed rfl ?_);iterate 4 all_goals ((try conv=>whnf);try first|(with_reducible first|refine zY ?_|refine zN ?_|refine zT ?_|refine br (fun _=> ?_) (fun _=> ?_)|refine⟨rfl,?_⟩|refine aj.call (h1) ?_))
 exact leaf rfl (.bool _)
theorem w8{s:List UInt8}{pos:Nat}:List.take (((s.length:Nat):Int).toNat-((pos:Nat):Int).toNat) (List.drop ((pos:Nat):Int).toNat s)=s.drop pos:=by
 rw[Int.toNat_natCast,Int.toNat_natCast,List.take_of_length_le (by rw[List.length_drop];omega)]
theorem K3{s:List UInt8}{pos w:Nat}(h:pos+w<=1000000):List.take ((IntKind.i64.wrap ((pos:Int)+(w:Int))).toNat-((pos:Nat):Int).toNat) (List.drop ((pos:Nat):Int).toNat s)=(s.drop pos).take w:=by
 rw[CS (by omega) (by omega),Int.toNat_natCast,show((pos:Int)+(w:Int)).toNat=pos+w by omega,Nat.add_sub_cancel_left]
theorem uR{s:List UInt8}{pos:Nat}(h:pos<s.length):aj Tryz.prog 182 [.str (List.take (((s.length:Nat):Int).toNat-((pos:Nat):Int).toNat) (List.drop ((pos:Nat):Int).toNat s))] (.bn [.int .i32 ((Utf8.decode ⟨s.toArray⟩ pos).1:Nat),.int .i64 ((Utf8.decode ⟨s.toArray⟩ pos).2:Nat)]):=by
 have e:Lib.decodeGo ⟨(s.drop pos).toArray⟩=Utf8.decode ⟨s.toArray⟩ pos:=by
  unfold Lib.decodeGo;rw[if_neg (by simp only[ByteArray.size,List.size_toArray,List.length_drop];omega),lX,lX,List.drop_zero]
 rw[w8,<-e];exact E3 _
theorem uS{s:List UInt8}{pos:Nat}:aj Tryz.prog 149 [.str (List.take (((s.length:Nat):Int).toNat-((pos:Nat):Int).toNat) (List.drop ((pos:Nat):Int).toNat s)),.str [39,39]] (.bool (([39,39]:List UInt8).isPrefixOf (s.drop pos))):=by
 rw[w8];exact qZ (by decide)
theorem K4{s t:List UInt8}{p:Nat}(h0:0<t.length)(ht:t.length<=1000000){R:bu->Heap->Prop}
  (hk:R (.ret (.bn [.int .i64 t.length,.dF])) ⟨4,[(3,mV 5 0 t),(2,.iter s p),(1,mU 99 1 3 0 t.length),(0,AZ)]⟩):
  aC Tryz.prog 33 [.ref 1 0 0 0,.str t] ⟨3,[(2,.iter s p),(1,Ss),(0,AZ)]⟩ R:=by
 refine Gx.call mixed rfl ?_;iterate 10 all_goals ((try conv=>whnf);try first|(with_reducible first|refine zY ?_|refine zN ?_|refine zT ?_|refine br (fun _=> ?_) (fun _=> ?_)|refine⟨rfl,?_⟩)|(refine sK.call mixed rfl ?_)|(refine lU (qt _) (by simpa using h0) (oJ _) (by simp;omega) (by simp;omega) ?_))
 rw[List.length_map];exact hk
theorem A4{m:Nat}{l:List (Nat×ai)}{bi j g:Nat}{o:List UInt8}{R:bu->Heap->Prop}(hb:ak l bi=some (mU 99 bi j g o.length))(hj:ak l j=some (mV 5 g o))(h0:0<o.length)(hlen:o.length<=9223372036854775807)
  (hk:R (.ret (.str o)) ⟨m,bt l j (.kf g 5 (o.map tw))⟩):aC Tryz.prog 34 [.ref bi 0 0 0] ⟨m,l⟩ R:=by
 refine zv.call mixed rfl ?_;have q1:Nat.blt 0 o.length=true:=by rw[Nat.blt,Nat.ble_eq];exact h0
 have q2:(Nat.beq g g&&(Nat.beq 0 0&&Nat.beq 0 0)&&(Nat.beq 1 1&&HE (Sk.ty ⟨true,some 5⟩) 5)&&(decide (0<(o.length:Int))&&decide ((o.length:Int)<=9223372036854775807)))=true:=by
  rw[cC,decide_eq_true (show 0<(o.length:Int) by omega),decide_eq_true (show(o.length:Int)<=9223372036854775807 by omega)];rfl
 have q3:Nat.beq g g=true:=cC g;have q4:Nat.beq j j=true:=cC j;iterate 40 all_goals ((try conv=>whnf);try first|(with_reducible first|refine zY ?_|refine zN ?_|refine zT ?_|refine br (fun _=> ?_) (fun _=> ?_)|refine⟨rfl,?_⟩)|(with_reducible refine aH hb ?_)|(with_reducible refine aH hj ?_)|(refine tU (by simp) ?_)|(refine rP ?_)|(with_reducible refine kE ?_))
 exact hk
theorem St{s:List UInt8}{p g n:Nat}{buf:List UInt8}:QH [(3,mV 5 g buf),(2,.iter s p),(1,mU 99 1 3 g n),(0,AZ)] 4:=by
 intro i ob h;unfold ak at h;split at h
 ·cases h;rename_i h;subst h;exact⟨by omega,sH⟩
 unfold ak at h;split at h
 ·cases h;rename_i h;subst h;exact⟨by omega,trivial⟩
 unfold ak at h;split at h
 ·cases h;rename_i h;subst h;exact⟨by omega,fun v hv=>by simp only[List.mem_singleton]at hv;subst hv;rfl⟩
 unfold ak at h;split at h
 ·cases h;rename_i h;subst h;exact⟨by omega,fun v hv=>by simp only[List.mem_singleton]at hv;subst hv;rfl⟩
 ·cases h
theorem Sv{s:List UInt8}{p g n:Nat}{buf:List UInt8}:QH [(4,mV 5 g buf),(3,.vec 0 1 [tw 39] ⟨false,some 5⟩),(2,.iter s p),(1,mU 99 1 4 g n),(0,AZ)] 5:=by
 intro i ob h;unfold ak at h;split at h
 ·cases h;rename_i h;subst h;exact⟨by omega,sH⟩
 unfold ak at h;split at h
 ·cases h;rename_i h;subst h;exact⟨by omega,fun v hv=>by simp only[List.mem_singleton]at hv;subst hv;rfl⟩
 unfold ak at h;split at h
 ·cases h;rename_i h;subst h;exact⟨by omega,trivial⟩
 unfold ak at h;split at h
 ·cases h;rename_i h;subst h;exact⟨by omega,fun v hv=>by simp only[List.mem_singleton]at hv;subst hv;rfl⟩
 unfold ak at h;split at h
 ·cases h;rename_i h;subst h;exact⟨by omega,fun v hv=>by simp only[List.mem_singleton]at hv;subst hv;rfl⟩
 ·cases h
theorem K5{s:List UInt8}(hs:s.length<=100000)(hq:s.getD 0 0=39)(hne:s≠[]):aj Tryz.prog 147 [.str s] (yJ (nW s)):=by
 refine aG (di (.str _)) (Rs.call mixed rfl ?_);have hpos:0<s.length:=by cases s with|nil=>exact absurd rfl hne|cons c r=>simp
 have start:nW s=bX s.length (s.drop 1) 1 false []:=rfl;iterate 8 all_goals ((try conv=>whnf);try first|(with_reducible first|refine zY ?_|refine zN ?_|refine zT ?_|refine br (fun _=> ?_) (fun _=> ?_)|refine⟨rfl,?_⟩))
 refine dz (σ:=mg s) mg.env mg.hp mg.mu mg.nn (fun x=>match x with| .A=>Nat.le_refl 3| .B=>(by show 3<=if s.getD 1 0=39 then 5 else 4;split<;>decide)| .C false .. =>Nat.le_refl 4| .C true .. =>Nat.le_refl 5) ?_ .A;rintro(_|_|⟨fb,pos,g,buf,bad,MX,hI⟩)
 ·have hd0:Utf8.decode ⟨s.toArray⟩ 0=(39,1):=by
   rw[lX,List.drop_zero];cases s with
   |nil=>exact absurd rfl hne
   |cons c r=>obtain rfl:c=39:=hq;exact qu r
  have hb:Nat.blt 0 s.length=true:=by rw[Nat.blt,Nat.ble_eq];exact hpos
  iterate 16 all_goals ((try conv=>whnf);try first|(with_reducible first|refine zY ?_|refine zN ?_|refine zT ?_|refine br (fun _=> ?_) (fun _=> ?_)|refine⟨rfl,?_⟩))
  exact⟨.B,by simp[mg.mu],rfl,by rw[hd0];rfl⟩
 ·by_cases hl:1<s.length
  ·have hd1:=lX s 1
   have hb:Nat.blt 1 s.length=true:=by rw[Nat.blt,Nat.ble_eq];exact hl
   have y8:=drop_cons hl;have cd:=uR hl;have cp:=uS (s:=s) (pos:=1);have hb0:(((1:Nat):Int)==0)=false:=rfl;have hdl:(s.drop 1).length=s.length-1:=List.length_drop;by_cases hc:s.getD 1 0=39
   ·rw[show mg.nn (mg.B:mg s)=5 from if_pos hc]
    have hD:Utf8.decode ⟨s.toArray⟩ 1=(39,1):=by rw[hd1,y8,hc,qu]
    have hR:(((Utf8.decode ⟨s.toArray⟩ 1).1:Int)!=39)=false:=by rw[hD];rfl
    iterate 40 all_goals ((try conv=>whnf);try first|(with_reducible first|refine zY ?_|refine zN ?_|refine zT ?_|refine br (fun _=> ?_) (fun _=> ?_)|refine⟨rfl,?_⟩|refine aj.call (cd) ?_|refine aj.call (cp) ?_)|(refine KA.call mixed rfl ?_)|(refine sK.call mixed rfl ?_)|(refine lU (xs:=[tw 39]) (iO dD rfl) (by decide) rfl (by decide) (by decide) ?_)|(refine E2.call mixed rfl ?_)|(refine zv.call mixed rfl ?_)|(refine au qY ?_)|(refine au (fN rfl) ?_))
    ·have hpre:=List.isPrefixOf_iff_prefix.1 (by assumption:([39,39]:List UInt8).isPrefixOf (s.drop 1)=true)
     have u7:2<s.length:=by have:=hpre.length_le;simp only[List.length_cons,List.length_nil]at this;omega
     have TG:s.getD 2 0=39:=by
      obtain⟨t,ht⟩:=hpre;have:(s.drop 1).getD 1 0=39:=by rw[<- ht];rfl
      simpa[List.getD,List.getElem?_drop]using this
     refine⟨.C true 2 0 [39] false true ⟨by omega,by omega,by simp,by simp,fun h=>(by cases h),fun _=>⟨u7,TG,s.length-1,by rw[List.length_drop];omega,?_⟩⟩,by simp only[mg.mu];omega,rfl,by rw[hD];rfl⟩;obtain⟨f,hf⟩: ∃f,s.length=f+1:=⟨s.length-1,by omega⟩;rw[start,hf,y8,hc,bX,if_neg (by simp),drop_cons u7,if_pos (by exact TG)];rfl
    ·have hnp:=(by assumption:([39,39]:List UInt8).isPrefixOf (s.drop 1)=false)
     refine leaf ?_ (cJ _);obtain⟨f,hf⟩: ∃f,s.length=f+1:=⟨s.length-1,by omega⟩
     have hn2: ¬(s.drop 2).getD 0 0=39:=fun h=>by
      rw[y8,hc]at hnp;cases he:s.drop 2 with
      |nil=>rw[he]at h;exact absurd h (by decide)
      |cons a r=>
       rw[he]at h;obtain rfl:a=39:=h;rw[he]at hnp;simp[List.isPrefixOf]at hnp
     rw[start,hf,y8,hc,bX,if_neg (by simp),if_neg hn2];rfl
   ·rw[show mg.nn (mg.B:mg s)=4 from if_neg hc]
    have Yi:=Da (r:=s.drop 2) hc;rw[<- y8,<-hd1]at Yi;have hw1:=decodeL_width (s.drop 1);have Vu:=decodeL_le (s.drop 1) (by rw[y8];simp);rw[<- hd1]at hw1 Vu;have hR:(((Utf8.decode ⟨s.toArray⟩ 1).1:Int)!=39)=true:=by rw[bne_iff_ne];omega
    have ew:=K3 (s:=s) (pos:=1) (w:=(Utf8.decode ⟨s.toArray⟩ 1).2) (by rw[List.length_drop]at Vu;omega)
    have es:(decide (0<=((1:Nat):Int))&&decide (((1:Nat):Int)<=IntKind.i64.wrap (((1:Nat):Int)+((Utf8.decode ⟨s.toArray⟩ 1).2:Int)))&&decide (IntKind.i64.wrap (((1:Nat):Int)+((Utf8.decode ⟨s.toArray⟩ 1).2:Int))<=((s.length:Nat):Int)))=true:=by
     rw[List.length_drop]at Vu;rw[CS (by omega) (by omega)];simp only[Bool.and_eq_true,decide_eq_true_eq];omega
    iterate 40 all_goals ((try conv=>whnf);try first|(with_reducible first|refine zY ?_|refine zN ?_|refine zT ?_|refine br (fun _=> ?_) (fun _=> ?_)|refine⟨rfl,?_⟩|refine aj.call (cd) ?_|refine aj.call (cp) ?_)|(rw[ew];refine K4 (by rw[List.length_take];omega) (by rw[List.length_take];omega) ?_)|(refine au qY ?_)|(refine au (fN rfl) ?_))
    all_goals
     obtain⟨f,hf⟩: ∃f,s.length=f+1:=⟨s.length-1,by omega⟩;have hgo:=uQ (f:=f) (i:=1) (l:=s.drop 1) (buf:=[]) (bad:=false) (by rw[y8];simp) (by rw[cD];exact hc);rw[<- hf,<-start,<-hd1,List.nil_append,Bool.false_or,List.drop_drop]at hgo
    ·have hr:=(by assumption:(((Utf8.decode ⟨s.toArray⟩ 1).1:Int)==65533)=true)
     have e1:((Utf8.decode ⟨s.toArray⟩ 1).1==65533)=true:=by rw[<- j8];exact hr
     have e2:(((Utf8.decode ⟨s.toArray⟩ 1).2:Int)==1)=((Utf8.decode ⟨s.toArray⟩ 1).2==1):=j8 _ 1;rw[e1,Bool.true_and]at hgo;refine⟨.C false (1+(Utf8.decode ⟨s.toArray⟩ 1).2) 0 ((s.drop 1).take (Utf8.decode ⟨s.toArray⟩ 1).2) ((Utf8.decode ⟨s.toArray⟩ 1).2==1) false ⟨by omega,by omega,by rw[List.length_take];omega,by rw[List.length_take];omega,fun _=>⟨f,by rw[List.length_drop];omega,hgo⟩,fun h=>(by cases h)⟩,by simp only[mg.mu];omega,by rw[e2],rfl⟩
    ·have hr:=(by assumption:(((Utf8.decode ⟨s.toArray⟩ 1).1:Int)==65533)=false)
     have e1:((Utf8.decode ⟨s.toArray⟩ 1).1==65533)=false:=by rw[<- j8];exact hr
     rw[e1,Bool.false_and]at hgo;refine⟨.C false (1+(Utf8.decode ⟨s.toArray⟩ 1).2) 0 ((s.drop 1).take (Utf8.decode ⟨s.toArray⟩ 1).2) false false ⟨by omega,by omega,by rw[List.length_take];omega,by rw[List.length_take];omega,fun _=>⟨f,by rw[List.length_drop];omega,hgo⟩,fun h=>(by cases h)⟩,by simp only[mg.mu];omega,rfl,rfl⟩
  ·have hb:Nat.blt 1 s.length=false:=by rw[Bool.eq_false_iff,ne_eq,Nat.blt,Nat.ble_eq];exact hl
   iterate 24 all_goals ((try conv=>whnf);try first|(with_reducible first|refine zY ?_|refine zN ?_|refine zT ?_|refine br (fun _=> ?_) (fun _=> ?_)|refine⟨rfl,?_⟩))
   refine leaf ?_ (cJ _);rw[start,List.drop_of_length_le (by omega)];cases s with
   |nil=>exact absurd rfl hne
   |cons c r=>rfl
 ·have hdl:(s.drop pos).length=s.length-pos:=List.length_drop
  have p1:=hI.p1;have pl:=hI.pl;have b0:=hI.b0;have bl:=hI.bl;have hd1:=lX s pos;have hb0:((pos:Int)==0)=false:=by rw[beq_eq_false_iff_ne];omega
  have qg:Nat.beq g g=true:=cC g;cases MX with
  |true=>
   obtain⟨hl,hq1,f,hf,hgo⟩:=hI.go2 rfl;have hD:Utf8.decode ⟨s.toArray⟩ pos=(39,1):=by rw[hd1,drop_cons hl,hq1,qu]
   have hb:Nat.blt pos s.length=true:=by rw[Nat.blt,Nat.ble_eq];exact hl
   cases fb with
   |false=>
    rw[show mg.nn (mg.C false pos g buf bad true hI)=4 from rfl];iterate 20 all_goals ((try conv=>whnf);try first|(with_reducible first|refine zY ?_|refine zN ?_|refine zT ?_|refine br (fun _=> ?_) (fun _=> ?_)|refine⟨rfl,?_⟩)|(refine au qY ?_))
    refine⟨.C false (pos+1) g buf bad false ⟨by omega,by omega,b0,by omega,fun _=>⟨f,hf,hgo⟩,fun h=>(by cases h)⟩,by simp only[mg.mu];omega,rfl,by rw[hD]⟩
   |true=>
    rw[show mg.nn (mg.C true pos g buf bad true hI)=5 from rfl];iterate 20 all_goals ((try conv=>whnf);try first|(with_reducible first|refine zY ?_|refine zN ?_|refine zT ?_|refine br (fun _=> ?_) (fun _=> ?_)|refine⟨rfl,?_⟩)|(refine au qY ?_)|(refine au (fN rfl) ?_))
    refine⟨.C true (pos+1) g buf bad false ⟨by omega,by omega,b0,by omega,fun _=>⟨f,hf,hgo⟩,fun h=>(by cases h)⟩,by simp only[mg.mu];omega,rfl,by rw[hD]⟩
  |false=>
   obtain⟨f,hf,hgo⟩:=hI.go rfl;by_cases hl:pos<s.length
   ·have hb:Nat.blt pos s.length=true:=by rw[Nat.blt,Nat.ble_eq];exact hl
    have y8:=drop_cons hl;have cd:=uR hl;have cp:=uS (s:=s) (pos:=pos);obtain⟨f,rfl⟩: ∃f',f=f'+1:=⟨f-1,by omega⟩;by_cases hc:s.getD pos 0=39
    ·have hD:Utf8.decode ⟨s.toArray⟩ pos=(39,1):=by rw[hd1,y8,hc,qu]
     have hR:(((Utf8.decode ⟨s.toArray⟩ pos).1:Int)!=39)=false:=by rw[hD];rfl
     cases fb
     ·rw[show mg.nn (mg.C false pos g buf bad false hI)=4 from rfl]
      by_cases hq1:s.getD (pos+1) 0=39
      ·have hpre:([39,39]:List UInt8).isPrefixOf (s.drop pos)=true:=AY.2 ⟨by rw[cD];exact hc,by rw[cD];exact hq1⟩
       have u7:pos+1<s.length:=by
        rcases Nat.lt_or_ge (pos+1) s.length with h|h
        ·exact h
        ·exfalso;revert hq1;simp[List.getD,List.getElem?_eq_none h]
       have qM:=w6 (f:=f) (i:=pos) (l:=s.drop pos) (buf:=buf) (bad:=bad) (by rw[cD];exact hc) (by rw[cD];exact hq1);rw[<- hgo,List.drop_drop]at qM;iterate 40 all_goals ((try conv=>whnf);try first|(with_reducible first|refine zY ?_|refine zN ?_|refine zT ?_|refine br (fun _=> ?_) (fun _=> ?_)|refine⟨rfl,?_⟩|refine aj.call (cp) ?_)|(refine K1 (bi:=1) (j:=3) (g:=g) (o:=buf) (c:=39) rfl rfl rfl (by omega) (by omega) (by omega) St (by omega) ?_)|(refine au qY ?_)|(refine au (fN rfl) ?_))
       refine⟨.C false (pos+1) (g+1) (buf++[39]) bad true ⟨by omega,by omega,by simp,by simp;omega,fun h=>(by cases h),fun _=>⟨u7,hq1,f,by rw[List.length_drop]at hf ⊢;omega,qM⟩⟩,by simp only[mg.mu];omega,rfl,by rw[hD];rfl⟩
      ·have hpre:([39,39]:List UInt8).isPrefixOf (s.drop pos)=false:=by
        rw[Bool.eq_false_iff,ne_eq,AY,cD,cD];exact fun h=>hq1 h.2
       have qM:=w7 (f:=f) (i:=pos) (l:=s.drop pos) (buf:=buf) (bad:=bad) (by rw[cD];exact hc) (by rw[cD];exact hq1);rw[<- hgo]at qM;cases bad with
       |true=>
        iterate 40 all_goals ((try conv=>whnf);try first|(with_reducible first|refine zY ?_|refine zN ?_|refine zT ?_|refine br (fun _=> ?_) (fun _=> ?_)|refine⟨rfl,?_⟩|refine aj.call (cp) ?_))
        exact leaf (by rw[qM];rfl) (cJ _)
       |false=>
        iterate 40 all_goals ((try conv=>whnf);try first|(with_reducible first|refine zY ?_|refine zN ?_|refine zT ?_|refine br (fun _=> ?_) (fun _=> ?_)|refine⟨rfl,?_⟩|refine aj.call (cp) ?_)|(refine E2.call mixed rfl ?_)|(refine A4 (bi:=1) (j:=3) (g:=g) (o:=buf) rfl rfl b0 (by omega) ?_))
        ·have h:=of_decide_eq_true (by assumption:decide ((64:Int)<((buf.length:Nat):Int))=true)
         exact leaf (by rw[qM,if_neg (by decide),if_pos (by omega)];rfl) (cJ _)
        ·have h:=of_decide_eq_false (by assumption:decide ((64:Int)<((buf.length:Nat):Int))=false)
         exact leaf (by rw[qM,if_neg (by decide),if_neg (by omega),bf (by omega)];rfl) (cJ _)
     ·rw[show mg.nn (mg.C true pos g buf bad false hI)=5 from rfl]
      by_cases hq1:s.getD (pos+1) 0=39
      ·have hpre:([39,39]:List UInt8).isPrefixOf (s.drop pos)=true:=AY.2 ⟨by rw[cD];exact hc,by rw[cD];exact hq1⟩
       have u7:pos+1<s.length:=by
        rcases Nat.lt_or_ge (pos+1) s.length with h|h
        ·exact h
        ·exfalso;revert hq1;simp[List.getD,List.getElem?_eq_none h]
       have qM:=w6 (f:=f) (i:=pos) (l:=s.drop pos) (buf:=buf) (bad:=bad) (by rw[cD];exact hc) (by rw[cD];exact hq1);rw[<- hgo,List.drop_drop]at qM;iterate 40 all_goals ((try conv=>whnf);try first|(with_reducible first|refine zY ?_|refine zN ?_|refine zT ?_|refine br (fun _=> ?_) (fun _=> ?_)|refine⟨rfl,?_⟩|refine aj.call (cp) ?_)|(refine K1 (bi:=1) (j:=4) (g:=g) (o:=buf) (c:=39) rfl rfl rfl (by omega) (by omega) (by omega) Sv (by omega) ?_)|(refine au qY ?_)|(refine au (fN rfl) ?_))
       refine⟨.C true (pos+1) (g+1) (buf++[39]) bad true ⟨by omega,by omega,by simp,by simp;omega,fun h=>(by cases h),fun _=>⟨u7,hq1,f,by rw[List.length_drop]at hf ⊢;omega,qM⟩⟩,by simp only[mg.mu];omega,rfl,by rw[hD];rfl⟩
      ·have hpre:([39,39]:List UInt8).isPrefixOf (s.drop pos)=false:=by
        rw[Bool.eq_false_iff,ne_eq,AY,cD,cD];exact fun h=>hq1 h.2
       have qM:=w7 (f:=f) (i:=pos) (l:=s.drop pos) (buf:=buf) (bad:=bad) (by rw[cD];exact hc) (by rw[cD];exact hq1);rw[<- hgo]at qM;cases bad with
       |true=>
        iterate 40 all_goals ((try conv=>whnf);try first|(with_reducible first|refine zY ?_|refine zN ?_|refine zT ?_|refine br (fun _=> ?_) (fun _=> ?_)|refine⟨rfl,?_⟩|refine aj.call (cp) ?_))
        exact leaf (by rw[qM];rfl) (cJ _)
       |false=>
        iterate 40 all_goals ((try conv=>whnf);try first|(with_reducible first|refine zY ?_|refine zN ?_|refine zT ?_|refine br (fun _=> ?_) (fun _=> ?_)|refine⟨rfl,?_⟩|refine aj.call (cp) ?_)|(refine E2.call mixed rfl ?_)|(refine A4 (bi:=1) (j:=4) (g:=g) (o:=buf) rfl rfl b0 (by omega) ?_))
        ·have h:=of_decide_eq_true (by assumption:decide ((64:Int)<((buf.length:Nat):Int))=true)
         exact leaf (by rw[qM,if_neg (by decide),if_pos (by omega)];rfl) (cJ _)
        ·have h:=of_decide_eq_false (by assumption:decide ((64:Int)<((buf.length:Nat):Int))=false)
         exact leaf (by rw[qM,if_neg (by decide),if_neg (by omega),bf (by omega)];rfl) (cJ _)
    ·have Yi:=Da (r:=s.drop (pos+1)) hc
     rw[<- y8,<-hd1]at Yi;have hw1:=decodeL_width (s.drop pos);have Vu:=decodeL_le (s.drop pos) (by rw[y8];simp);rw[<- hd1]at hw1 Vu;have hR:(((Utf8.decode ⟨s.toArray⟩ pos).1:Int)!=39)=true:=by rw[bne_iff_ne];omega
     have ew:=K3 (s:=s) (pos:=pos) (w:=(Utf8.decode ⟨s.toArray⟩ pos).2) (by omega)
     have es:(decide (0<=((pos:Nat):Int))&&decide (((pos:Nat):Int)<=IntKind.i64.wrap (((pos:Nat):Int)+((Utf8.decode ⟨s.toArray⟩ pos).2:Int)))&&decide (IntKind.i64.wrap (((pos:Nat):Int)+((Utf8.decode ⟨s.toArray⟩ pos).2:Int))<=((s.length:Nat):Int)))=true:=by
      rw[CS (by omega) (by omega)];simp only[Bool.and_eq_true,decide_eq_true_eq];omega
     have qM:=uQ (f:=f) (i:=pos) (l:=s.drop pos) (buf:=buf) (bad:=bad) (by rw[y8];simp) (by rw[cD];exact hc);rw[<- hgo,<-hd1,List.drop_drop]at qM;cases fb
     ·rw[show mg.nn (mg.C false pos g buf bad false hI)=4 from rfl]
      cases bad with
      |true=>
       iterate 40 all_goals ((try conv=>whnf);try first|(with_reducible first|refine zY ?_|refine zN ?_|refine zT ?_|refine br (fun _=> ?_) (fun _=> ?_)|refine⟨rfl,?_⟩|refine aj.call (cd) ?_)|(rw[ew];refine w5 (bi:=1) (j:=3) (g:=g) (o:=buf) rfl rfl (by omega) (by omega) (by omega) St (by rw[List.length_take];omega) (fun g'=> ?_))|(refine au qY ?_)|(refine au (fN rfl) ?_))
       refine⟨.C false (pos+(Utf8.decode ⟨s.toArray⟩ pos).2) g' (buf++(s.drop pos).take (Utf8.decode ⟨s.toArray⟩ pos).2) true false ⟨by omega,by omega,by rw[List.length_append];omega,by rw[List.length_append,List.length_take];omega,fun _=>⟨f,by rw[List.length_drop]at hf ⊢;omega,qM⟩,fun h=>(by cases h)⟩,by simp only[mg.mu];omega,rfl,rfl⟩
      |false=>
       iterate 40 all_goals ((try conv=>whnf);try first|(with_reducible first|refine zY ?_|refine zN ?_|refine zT ?_|refine br (fun _=> ?_) (fun _=> ?_)|refine⟨rfl,?_⟩|refine aj.call (cd) ?_)|(rw[ew];refine w5 (bi:=1) (j:=3) (g:=g) (o:=buf) rfl rfl (by omega) (by omega) (by omega) St (by rw[List.length_take];omega) (fun g'=> ?_))|(refine au qY ?_)|(refine au (fN rfl) ?_))
       ·have hr:=(by assumption:(((Utf8.decode ⟨s.toArray⟩ pos).1:Int)==65533)=true)
        have e1:((Utf8.decode ⟨s.toArray⟩ pos).1==65533)=true:=by rw[<- j8];exact hr
        have e2:(((Utf8.decode ⟨s.toArray⟩ pos).2:Int)==1)=((Utf8.decode ⟨s.toArray⟩ pos).2==1):=j8 _ 1;rw[Bool.false_or,e1,Bool.true_and]at qM;refine⟨.C false (pos+(Utf8.decode ⟨s.toArray⟩ pos).2) g' (buf++(s.drop pos).take (Utf8.decode ⟨s.toArray⟩ pos).2) ((Utf8.decode ⟨s.toArray⟩ pos).2==1) false ⟨by omega,by omega,by rw[List.length_append];omega,by rw[List.length_append,List.length_take];omega,fun _=>⟨f,by rw[List.length_drop]at hf ⊢;omega,qM⟩,fun h=>(by cases h)⟩,by simp only[mg.mu];omega,by rw[e2],rfl⟩
       ·have hr:=(by assumption:(((Utf8.decode ⟨s.toArray⟩ pos).1:Int)==65533)=false)
        have e1:((Utf8.decode ⟨s.toArray⟩ pos).1==65533)=false:=by rw[<- j8];exact hr
        rw[Bool.false_or,e1,Bool.false_and]at qM;refine⟨.C false (pos+(Utf8.decode ⟨s.toArray⟩ pos).2) g' (buf++(s.drop pos).take (Utf8.decode ⟨s.toArray⟩ pos).2) false false ⟨by omega,by omega,by rw[List.length_append];omega,by rw[List.length_append,List.length_take];omega,fun _=>⟨f,by rw[List.length_drop]at hf ⊢;omega,qM⟩,fun h=>(by cases h)⟩,by simp only[mg.mu];omega,rfl,rfl⟩
     ·rw[show mg.nn (mg.C true pos g buf bad false hI)=5 from rfl]
      cases bad with
      |true=>
       iterate 40 all_goals ((try conv=>whnf);try first|(with_reducible first|refine zY ?_|refine zN ?_|refine zT ?_|refine br (fun _=> ?_) (fun _=> ?_)|refine⟨rfl,?_⟩|refine aj.call (cd) ?_)|(rw[ew];refine w5 (bi:=1) (j:=4) (g:=g) (o:=buf) rfl rfl (by omega) (by omega) (by omega) Sv (by rw[List.length_take];omega) (fun g'=> ?_))|(refine au qY ?_)|(refine au (fN rfl) ?_))
       refine⟨.C true (pos+(Utf8.decode ⟨s.toArray⟩ pos).2) g' (buf++(s.drop pos).take (Utf8.decode ⟨s.toArray⟩ pos).2) true false ⟨by omega,by omega,by rw[List.length_append];omega,by rw[List.length_append,List.length_take];omega,fun _=>⟨f,by rw[List.length_drop]at hf ⊢;omega,qM⟩,fun h=>(by cases h)⟩,by simp only[mg.mu];omega,rfl,rfl⟩
      |false=>
       iterate 40 all_goals ((try conv=>whnf);try first|(with_reducible first|refine zY ?_|refine zN ?_|refine zT ?_|refine br (fun _=> ?_) (fun _=> ?_)|refine⟨rfl,?_⟩|refine aj.call (cd) ?_)|(rw[ew];refine w5 (bi:=1) (j:=4) (g:=g) (o:=buf) rfl rfl (by omega) (by omega) (by omega) Sv (by rw[List.length_take];omega) (fun g'=> ?_))|(refine au qY ?_)|(refine au (fN rfl) ?_))
       ·have hr:=(by assumption:(((Utf8.decode ⟨s.toArray⟩ pos).1:Int)==65533)=true)
        have e1:((Utf8.decode ⟨s.toArray⟩ pos).1==65533)=true:=by rw[<- j8];exact hr
        have e2:(((Utf8.decode ⟨s.toArray⟩ pos).2:Int)==1)=((Utf8.decode ⟨s.toArray⟩ pos).2==1):=j8 _ 1;rw[Bool.false_or,e1,Bool.true_and]at qM;refine⟨.C true (pos+(Utf8.decode ⟨s.toArray⟩ pos).2) g' (buf++(s.drop pos).take (Utf8.decode ⟨s.toArray⟩ pos).2) ((Utf8.decode ⟨s.toArray⟩ pos).2==1) false ⟨by omega,by omega,by rw[List.length_append];omega,by rw[List.length_append,List.length_take];omega,fun _=>⟨f,by rw[List.length_drop]at hf ⊢;omega,qM⟩,fun h=>(by cases h)⟩,by simp only[mg.mu];omega,by rw[e2],rfl⟩
       ·have hr:=(by assumption:(((Utf8.decode ⟨s.toArray⟩ pos).1:Int)==65533)=false)
        have e1:((Utf8.decode ⟨s.toArray⟩ pos).1==65533)=false:=by rw[<- j8];exact hr
        rw[Bool.false_or,e1,Bool.false_and]at qM;refine⟨.C true (pos+(Utf8.decode ⟨s.toArray⟩ pos).2) g' (buf++(s.drop pos).take (Utf8.decode ⟨s.toArray⟩ pos).2) false false ⟨by omega,by omega,by rw[List.length_append];omega,by rw[List.length_append,List.length_take];omega,fun _=>⟨f,by rw[List.length_drop]at hf ⊢;omega,qM⟩,fun h=>(by cases h)⟩,by simp only[mg.mu];omega,rfl,rfl⟩
   ·have hb:Nat.blt pos s.length=false:=by rw[Bool.eq_false_iff,ne_eq,Nat.blt,Nat.ble_eq];exact hl
    rw[List.drop_of_length_le (by omega),Ff]at hgo;cases fb<;>iterate 24 all_goals ((try conv=>whnf);try first|(with_reducible first|refine zY ?_|refine zN ?_|refine zT ?_|refine br (fun _=> ?_) (fun _=> ?_)|refine⟨rfl,?_⟩))
    all_goals exact leaf (by rw[hgo];rfl) (cJ _)
end Go.Proofs.YtegmnocpkgpgeaaGreatDoor
