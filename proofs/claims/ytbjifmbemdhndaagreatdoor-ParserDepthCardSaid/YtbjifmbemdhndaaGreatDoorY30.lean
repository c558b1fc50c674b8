/- Parts of the proof of PParserDepth, one behind the other, with short names. -/
import Derived.Test.YtbjifmbemdhndaaGreatDoorY29
import Derived.Test.YtbjifmbemdhndaaGreatDoorY20
set_option linter.unusedVariables false
set_option linter.unusedSimpArgs false
namespace Go.Proofs.YtbjifmbemdhndaaGreatDoor
open Ab Go.RowKit Go.Lib
set_option maxRecDepth 100000
set_option maxHeartbeats 4000000
attribute [local irreducible] aO bx Utf8.decode
theorem oS{n:Nat}{s:List UInt8}: ∀v∈s.map sV,SV.lt 8 n v=true:=by
 intro v hv;obtain⟨b,_,rfl⟩:=List.mem_map.1 hv;rfl
theorem gR{n:Nat}{u:SV}(h:SV.lt 8 n u=true): ∀v∈[u],SV.lt 8 n v=true:=by
 intro v hv;simp only[List.mem_singleton]at hv;subst hv;exact h
structure V4(s:List UInt8)(pos:Nat)(buf:List UInt8)(bad Io:Bool):Prop where
 p1:1<pos
 pl:pos<=s.length
 b0:0<buf.length
 bl:buf.length<=pos
 go:Io=false-> ∃f,(s.drop pos).length<=f/\lV s=bN f (s.drop pos) pos bad buf
 go2:Io=true->pos<s.length/\s.getD pos 0=39/\ ∃f,(s.drop (pos+1)).length<=f/\lV s=bN f (s.drop (pos+1)) (pos+1) bad buf
inductive kA(s:List UInt8) where
 |A
 |B
 |C (fb:Bool) (pos g:Nat) (buf:List UInt8) (bad Io:Bool) (h:V4 s pos buf bad Io)
@[reducible] def Nb:aA:= .vec 0 2 [.agg [.ez,.ak]] ⟨false,some 84⟩
@[reducible] def ym:aA:= .vec 0 4 [gm aH] ⟨false,some 57⟩
@[reducible] def kA.env {s:List UInt8}:kA s->Env
  | .A=>[(0,SV.str s),(2,SV.ref 0 0 0 0),(3,SV.int IntKind.i64 0),(4,SV.int IntKind.i64 0),(5,SV.ref 1 0 0 0),(6,SV.bool false),(7,SV.bool false),(13,SV.ref 2 0 0 0)]
  | .B=>[(0,SV.str s),(2,SV.ref 0 0 0 0),(3,SV.int IntKind.i64 0),(4,SV.int IntKind.i64 0),(5,SV.ref 1 0 0 0),(6,SV.bool false),(7,SV.bool false),(13,SV.ref 2 0 0 0)]
  | .C _ pos g buf bad Io _=>[(0,SV.str s),(2,SV.ref 0 0 0 0),(3,SV.int IntKind.i64 0),(4,SV.int IntKind.i64 0),(5,SV.ref 1 0 0 0),(6,SV.bool bad),(7,SV.bool Io),(13,SV.ref 2 0 0 0)]
@[reducible] def kA.hp {s:List UInt8}:kA s->Heap
  | .A=>⟨3,[(2,.iter s 0),(1,Nb),(0,ym)]⟩
  | .B=>⟨3,[(2,.iter s 1),(1,Nb),(0,ym)]⟩
  | .C false pos g buf bad Io _=>⟨4,[(3,mL 5 g buf),(2,.iter s pos),(1,lY 84 1 3 g buf.length),(0,ym)]⟩
  | .C true pos g buf bad Io _=>⟨5,[(4,mL 5 g buf),(3,.vec 0 1 [sV 39] ⟨false,some 5⟩),(2,.iter s pos),(1,lY 84 1 4 g buf.length),(0,ym)]⟩
def kA.mu{s:List UInt8}:kA s->Nat
 | .A=>s.length+2
 | .B=>s.length+1
 | .C _ pos _ _ _ _ _=>s.length-pos
def kA.nn{s:List UInt8}:kA s->Nat
 | .A=>3
 | .B=>if s.getD 1 0=39 then 5 else 4
 | .C false .. =>4
 | .C true .. =>5
theorem HA{p l:List UInt8}(h:p.length<=l.length):(l.take p.length==p)=p.isPrefixOf l:=by
 rw[Bool.eq_iff_iff,beq_iff_eq,List.isPrefixOf_iff_prefix,List.prefix_iff_eq_take];exact⟨fun h=>h.symm,fun h=>h.symm⟩
theorem oT{l p:List UInt8}(hp:p.length<=1000000):au Tryz.prog 80 [.str l,.str p] (.bool (p.isPrefixOf l)):=by
 have h1:au Tryz.prog 130 [.str l,.str p] (.bool (p.isPrefixOf l)):=by
  refine bu (kJ (.str _) (.str _)) (Hj.call mixed rfl ?_);by_cases h:p.length<=l.length
  ·have hd:decide ((p.length:Int)<=(l.length:Int))=true:=decide_eq_true (by omega)
   iterate 12 all_goals ((try conv=>whnf);try first|(with_reducible first|refine zY ?_|refine zN ?_|refine zT ?_|refine br (fun _=> ?_) (fun _=> ?_)|refine⟨rfl,?_⟩))
   refine leaf ?_ (.bool _);rw[Int.toNat_natCast,show Int.toNat 0=0 from rfl,List.drop_zero,Nat.sub_zero,HA h]
  ·have hd:decide ((p.length:Int)<=(l.length:Int))=false:=decide_eq_false (by omega)
   iterate 12 all_goals ((try conv=>whnf);try first|(with_reducible first|refine zY ?_|refine zN ?_|refine zT ?_|refine br (fun _=> ?_) (fun _=> ?_)|refine⟨rfl,?_⟩))
   refine leaf ?_ (.bool _)
   have:p.isPrefixOf l=false:=by
    rw[Bool.eq_false_iff,ne_eq,List.isPrefixOf_iff_prefix];exact fun h'=>h h'.length_le
   rw[this]
 refine bu (kJ (.str _) (.str _)) (KP.call mixed rfl ?_);iterate 4 all_goals ((try conv=>whnf);try first|(with_reducible first|refine zY ?_|refine zN ?_|refine zT ?_|refine br (fun _=> ?_) (fun _=> ?_)|refine⟨rfl,?_⟩|refine au.call (h1) ?_))
 exact leaf rfl (.bool _)
theorem uH{s:List UInt8}{pos:Nat}:List.take (((s.length:Nat):Int).toNat-((pos:Nat):Int).toNat) (List.drop ((pos:Nat):Int).toNat s)=s.drop pos:=by
 rw[Int.toNat_natCast,Int.toNat_natCast,List.take_of_length_le (by rw[List.length_drop];omega)]
theorem HB{s:List UInt8}{pos w:Nat}(h:pos+w<=1000000):List.take ((IntKind.i64.wrap ((pos:Int)+(w:Int))).toNat-((pos:Nat):Int).toNat) (List.drop ((pos:Nat):Int).toNat s)=(s.drop pos).take w:=by
 rw[uB (by omega) (by omega),Int.toNat_natCast,show((pos:Int)+(w:Int)).toNat=pos+w by omega,Nat.add_sub_cancel_left]
theorem sI{s:List UInt8}{pos:Nat}(h:pos<s.length):au Tryz.prog 91 [.str (List.take (((s.length:Nat):Int).toNat-((pos:Nat):Int).toNat) (List.drop ((pos:Nat):Int).toNat s))] (.aN [.int .i32 ((Utf8.decode ⟨s.toArray⟩ pos).1:Nat),.int .i64 ((Utf8.decode ⟨s.toArray⟩ pos).2:Nat)]):=by
 have e:Lib.decodeGo ⟨(s.drop pos).toArray⟩=Utf8.decode ⟨s.toArray⟩ pos:=by
  unfold Lib.decodeGo;rw[if_neg (by simp only[ByteArray.size,List.size_toArray,List.length_drop];omega),j8,j8,List.drop_zero]
 rw[uH,<-e];exact Cj _
theorem sJ{s:List UInt8}{pos:Nat}:au Tryz.prog 80 [.str (List.take (((s.length:Nat):Int).toNat-((pos:Nat):Int).toNat) (List.drop ((pos:Nat):Int).toNat s)),.str [39,39]] (.bool (([39,39]:List UInt8).isPrefixOf (s.drop pos))):=by
 rw[uH];exact oT (by decide)
theorem HC{s t:List UInt8}{p:Nat}(h0:0<t.length)(ht:t.length<=1000000){R:bV->Heap->Prop}
  (hk:R (.ret (.aN [.int .i64 t.length,.de])) ⟨4,[(3,mL 5 0 t),(2,.iter s p),(1,lY 84 1 3 0 t.length),(0,ym)]⟩):
  aP Tryz.prog 32 [.ref 1 0 0 0,.str t] ⟨3,[(2,.iter s p),(1,Nb),(0,ym)]⟩ R:=by
 refine G8.call mixed rfl ?_;iterate 10 all_goals ((try conv=>whnf);try first|(with_reducible first|refine zY ?_|refine zN ?_|refine zT ?_|refine br (fun _=> ?_) (fun _=> ?_)|refine⟨rfl,?_⟩)|(refine uD.call mixed rfl ?_)|(refine pR (rP _) (by simpa using h0) (pQ _) (by simp;omega) (by simp;omega) ?_))
 rw[List.length_map];exact hk
theorem Eg{m:Nat}{l:List (Nat×aA)}{bi j g:Nat}{o:List UInt8}{R:bV->Heap->Prop}(hb:aG l bi=some (lY 84 bi j g o.length))(hj:aG l j=some (mL 5 g o))(h0:0<o.length)(hlen:o.length<=9223372036854775807)
  (hk:R (.ret (.str o)) ⟨m,bC l j (.js g 5 (o.map sV))⟩):aP Tryz.prog 34 [.ref bi 0 0 0] ⟨m,l⟩ R:=by
 refine Ec.call mixed rfl ?_;have q1:Nat.blt 0 o.length=true:=by rw[Nat.blt,Nat.ble_eq];exact h0
 have q2:(Nat.beq g g&&(Nat.beq 0 0&&Nat.beq 0 0)&&(Nat.beq 1 1&&ED (Sk.ty ⟨true,some 5⟩) 5)&&(decide (0<(o.length:Int))&&decide ((o.length:Int)<=9223372036854775807)))=true:=by
  rw[dK,decide_eq_true (show 0<(o.length:Int) by omega),decide_eq_true (show(o.length:Int)<=9223372036854775807 by omega)];rfl
 have q3:Nat.beq g g=true:=dK g;have q4:Nat.beq j j=true:=dK j;iterate 40 all_goals ((try conv=>whnf);try first|(with_reducible first|refine zY ?_|refine zN ?_|refine zT ?_|refine br (fun _=> ?_) (fun _=> ?_)|refine⟨rfl,?_⟩)|(with_reducible refine eD hb ?_)|(with_reducible refine eD hj ?_)|(refine wL (by simp) ?_)|(refine uC ?_)|(with_reducible refine nS ?_))
 exact hk
theorem Nc{s:List UInt8}{p g n:Nat}{buf:List UInt8}:Me [(3,mL 5 g buf),(2,.iter s p),(1,lY 84 1 3 g n),(0,ym)] 4:=by
 intro i ob h;unfold aG at h;split at h
 ·cases h;rename_i h;subst h;exact⟨by omega,qG⟩
 unfold aG at h;split at h
 ·cases h;rename_i h;subst h;exact⟨by omega,trivial⟩
 unfold aG at h;split at h
 ·cases h;rename_i h;subst h;exact⟨by omega,fun v hv=>by simp only[List.mem_singleton]at hv;subst hv;rfl⟩
 unfold aG at h;split at h
 ·cases h;rename_i h;subst h;exact⟨by omega,fun v hv=>by simp only[List.mem_singleton]at hv;subst hv;rfl⟩
 ·cases h
theorem Nd{s:List UInt8}{p g n:Nat}{buf:List UInt8}:Me [(4,mL 5 g buf),(3,.vec 0 1 [sV 39] ⟨false,some 5⟩),(2,.iter s p),(1,lY 84 1 4 g n),(0,ym)] 5:=by
 intro i ob h;unfold aG at h;split at h
 ·cases h;rename_i h;subst h;exact⟨by omega,qG⟩
 unfold aG at h;split at h
 ·cases h;rename_i h;subst h;exact⟨by omega,fun v hv=>by simp only[List.mem_singleton]at hv;subst hv;rfl⟩
 unfold aG at h;split at h
 ·cases h;rename_i h;subst h;exact⟨by omega,trivial⟩
 unfold aG at h;split at h
 ·cases h;rename_i h;subst h;exact⟨by omega,fun v hv=>by simp only[List.mem_singleton]at hv;subst hv;rfl⟩
 unfold aG at h;split at h
 ·cases h;rename_i h;subst h;exact⟨by omega,fun v hv=>by simp only[List.mem_singleton]at hv;subst hv;rfl⟩
 ·cases h
theorem HD{s:List UInt8}(hs:s.length<=100000)(hq:s.getD 0 0=39)(hne:s≠[]):au Tryz.prog 78 [.str s] (vB (lV s)):=by
 refine bu (bK (.str _)) (Qn.call mixed rfl ?_);have hpos:0<s.length:=by cases s with|nil=>exact absurd rfl hne|cons c r=>simp
 have start:lV s=bN s.length (s.drop 1) 1 false []:=rfl;iterate 8 all_goals ((try conv=>whnf);try first|(with_reducible first|refine zY ?_|refine zN ?_|refine zT ?_|refine br (fun _=> ?_) (fun _=> ?_)|refine⟨rfl,?_⟩))
 refine nT (σ:=kA s) kA.env kA.hp kA.mu kA.nn (fun x=>match x with| .A=>Nat.le_refl 3| .B=>(by show 3<=if s.getD 1 0=39 then 5 else 4;split<;>decide)| .C false .. =>Nat.le_refl 4| .C true .. =>Nat.le_refl 5) ?_ .A;rintro(_|_|⟨fb,pos,g,buf,bad,Io,hI⟩)
 ·have hd0:Utf8.decode ⟨s.toArray⟩ 0=(39,1):=by
   rw[j8,List.drop_zero];cases s with
   |nil=>exact absurd rfl hne
   |cons c r=>obtain rfl:c=39:=hq;exact oo r
  have hb:Nat.blt 0 s.length=true:=by rw[Nat.blt,Nat.ble_eq];exact hpos
  iterate 16 all_goals ((try conv=>whnf);try first|(with_reducible first|refine zY ?_|refine zN ?_|refine zT ?_|refine br (fun _=> ?_) (fun _=> ?_)|refine⟨rfl,?_⟩))
  exact⟨.B,by simp[kA.mu],rfl,by rw[hd0];rfl⟩
 ·by_cases hl:1<s.length
  ·have hd1:=j8 s 1
   have hb:Nat.blt 1 s.length=true:=by rw[Nat.blt,Nat.ble_eq];exact hl
   have vW:=drop_cons hl;have cd:=sI hl;have cp:=sJ (s:=s) (pos:=1);have hb0:(((1:Nat):Int)==0)=false:=rfl;have hdl:(s.drop 1).length=s.length-1:=List.length_drop;by_cases hc:s.getD 1 0=39
   ·rw[show kA.nn (kA.B:kA s)=5 from if_pos hc]
    have hD:Utf8.decode ⟨s.toArray⟩ 1=(39,1):=by rw[hd1,vW,hc,oo]
    have hR:(((Utf8.decode ⟨s.toArray⟩ 1).1:Int)!=39)=false:=by rw[hD];rfl
    iterate 40 all_goals ((try conv=>whnf);try first|(with_reducible first|refine zY ?_|refine zN ?_|refine zT ?_|refine br (fun _=> ?_) (fun _=> ?_)|refine⟨rfl,?_⟩|refine au.call (cd) ?_|refine au.call (cp) ?_)|(refine G9.call mixed rfl ?_)|(refine uD.call mixed rfl ?_)|(refine pR (xs:=[sV 39]) (lX iB rfl) (by decide) rfl (by decide) (by decide) ?_)|(refine Cd.call mixed rfl ?_)|(refine Ec.call mixed rfl ?_)|(refine bh oS ?_)|(refine bh (gR rfl) ?_))
    ·have hpre:=List.isPrefixOf_iff_prefix.1 (by assumption:([39,39]:List UInt8).isPrefixOf (s.drop 1)=true)
     have vV:2<s.length:=by have:=hpre.length_le;simp only[List.length_cons,List.length_nil]at this;omega
     have Rp:s.getD 2 0=39:=by
      obtain⟨t,ht⟩:=hpre;have:(s.drop 1).getD 1 0=39:=by rw[<- ht];rfl
      simpa[List.getD,List.getElem?_drop]using this
     refine⟨.C true 2 0 [39] false true ⟨by omega,by omega,by simp,by simp,fun h=>(by cases h),fun _=>⟨vV,Rp,s.length-1,by rw[List.length_drop];omega,?_⟩⟩,by simp only[kA.mu];omega,rfl,by rw[hD];rfl⟩;obtain⟨f,hf⟩: ∃f,s.length=f+1:=⟨s.length-1,by omega⟩;rw[start,hf,vW,hc,bN,if_neg (by simp),drop_cons vV,if_pos (by exact Rp)];rfl
    ·have hnp:=(by assumption:([39,39]:List UInt8).isPrefixOf (s.drop 1)=false)
     refine leaf ?_ (cE _);obtain⟨f,hf⟩: ∃f,s.length=f+1:=⟨s.length-1,by omega⟩
     have hn2: ¬(s.drop 2).getD 0 0=39:=fun h=>by
      rw[vW,hc]at hnp;cases he:s.drop 2 with
      |nil=>rw[he]at h;exact absurd h (by decide)
      |cons a r=>
       rw[he]at h;obtain rfl:a=39:=h;rw[he]at hnp;simp[List.isPrefixOf]at hnp
     rw[start,hf,vW,hc,bN,if_neg (by simp),if_neg hn2];rfl
   ·rw[show kA.nn (kA.B:kA s)=4 from if_neg hc]
    have SS:=zW (r:=s.drop 2) hc;rw[<- vW,<-hd1]at SS;have hw1:=decodeL_width (s.drop 1);have Qx:=decodeL_le (s.drop 1) (by rw[vW];simp);rw[<- hd1]at hw1 Qx;have hR:(((Utf8.decode ⟨s.toArray⟩ 1).1:Int)!=39)=true:=by rw[bne_iff_ne];omega
    have ew:=HB (s:=s) (pos:=1) (w:=(Utf8.decode ⟨s.toArray⟩ 1).2) (by rw[List.length_drop]at Qx;omega)
    have es:(decide (0<=((1:Nat):Int))&&decide (((1:Nat):Int)<=IntKind.i64.wrap (((1:Nat):Int)+((Utf8.decode ⟨s.toArray⟩ 1).2:Int)))&&decide (IntKind.i64.wrap (((1:Nat):Int)+((Utf8.decode ⟨s.toArray⟩ 1).2:Int))<=((s.length:Nat):Int)))=true:=by
     rw[List.length_drop]at Qx;rw[uB (by omega) (by omega)];simp only[Bool.and_eq_true,decide_eq_true_eq];omega
    iterate 40 all_goals ((try conv=>whnf);try first|(with_reducible first|refine zY ?_|refine zN ?_|refine zT ?_|refine br (fun _=> ?_) (fun _=> ?_)|refine⟨rfl,?_⟩|refine au.call (cd) ?_|refine au.call (cp) ?_)|(rw[ew];refine HC (by rw[List.length_take];omega) (by rw[List.length_take];omega) ?_)|(refine bh oS ?_)|(refine bh (gR rfl) ?_))
    all_goals
     obtain⟨f,hf⟩: ∃f,s.length=f+1:=⟨s.length-1,by omega⟩;have hgo:=sD (f:=f) (i:=1) (l:=s.drop 1) (buf:=[]) (bad:=false) (by rw[vW];simp) (by rw[bY];exact hc);rw[<- hf,<-start,<-hd1,List.nil_append,Bool.false_or,List.drop_drop]at hgo
    ·have hr:=(by assumption:(((Utf8.decode ⟨s.toArray⟩ 1).1:Int)==65533)=true)
     have e1:((Utf8.decode ⟨s.toArray⟩ 1).1==65533)=true:=by rw[<- iA];exact hr
     have e2:(((Utf8.decode ⟨s.toArray⟩ 1).2:Int)==1)=((Utf8.decode ⟨s.toArray⟩ 1).2==1):=iA _ 1;rw[e1,Bool.true_and]at hgo;refine⟨.C false (1+(Utf8.decode ⟨s.toArray⟩ 1).2) 0 ((s.drop 1).take (Utf8.decode ⟨s.toArray⟩ 1).2) ((Utf8.decode ⟨s.toArray⟩ 1).2==1) false ⟨by omega,by omega,by rw[List.length_take];omega,by rw[List.length_take];omega,fun _=>⟨f,by rw[List.length_drop];omega,hgo⟩,fun h=>(by cases h)⟩,by simp only[kA.mu];omega,by rw[e2],rfl⟩
    ·have hr:=(by assumption:(((Utf8.decode ⟨s.toArray⟩ 1).1:Int)==65533)=false)
     have e1:((Utf8.decode ⟨s.toArray⟩ 1).1==65533)=false:=by rw[<- iA];exact hr
     rw[e1,Bool.false_and]at hgo;refine⟨.C false (1+(Utf8.decode ⟨s.toArray⟩ 1).2) 0 ((s.drop 1).take (Utf8.decode ⟨s.toArray⟩ 1).2) false false ⟨by omega,by omega,by rw[List.length_take];omega,by rw[List.length_take];omega,fun _=>⟨f,by rw[List.length_drop];omega,hgo⟩,fun h=>(by cases h)⟩,by simp only[kA.mu];omega,rfl,rfl⟩
  ·have hb:Nat.blt 1 s.length=false:=by rw[Bool.eq_false_iff,ne_eq,Nat.blt,Nat.ble_eq];exact hl
   iterate 24 all_goals ((try conv=>whnf);try first|(with_reducible first|refine zY ?_|refine zN ?_|refine zT ?_|refine br (fun _=> ?_) (fun _=> ?_)|refine⟨rfl,?_⟩))
   refine leaf ?_ (cE _);rw[start,List.drop_of_length_le (by omega)];cases s with
   |nil=>exact absurd rfl hne
   |cons c r=>rfl
 ·have hdl:(s.drop pos).length=s.length-pos:=List.length_drop
  have p1:=hI.p1;have pl:=hI.pl;have b0:=hI.b0;have bl:=hI.bl;have hd1:=j8 s pos;have hb0:((pos:Int)==0)=false:=by rw[beq_eq_false_iff_ne];omega
  have qg:Nat.beq g g=true:=dK g;cases Io with
  |true=>
   obtain⟨hl,hq1,f,hf,hgo⟩:=hI.go2 rfl;have hD:Utf8.decode ⟨s.toArray⟩ pos=(39,1):=by rw[hd1,drop_cons hl,hq1,oo]
   have hb:Nat.blt pos s.length=true:=by rw[Nat.blt,Nat.ble_eq];exact hl
   cases fb with
   |false=>
    rw[show kA.nn (kA.C false pos g buf bad true hI)=4 from rfl];iterate 20 all_goals ((try conv=>whnf);try first|(with_reducible first|refine zY ?_|refine zN ?_|refine zT ?_|refine br (fun _=> ?_) (fun _=> ?_)|refine⟨rfl,?_⟩)|(refine bh oS ?_))
    refine⟨.C false (pos+1) g buf bad false ⟨by omega,by omega,b0,by omega,fun _=>⟨f,hf,hgo⟩,fun h=>(by cases h)⟩,by simp only[kA.mu];omega,rfl,by rw[hD]⟩
   |true=>
    rw[show kA.nn (kA.C true pos g buf bad true hI)=5 from rfl];iterate 20 all_goals ((try conv=>whnf);try first|(with_reducible first|refine zY ?_|refine zN ?_|refine zT ?_|refine br (fun _=> ?_) (fun _=> ?_)|refine⟨rfl,?_⟩)|(refine bh oS ?_)|(refine bh (gR rfl) ?_))
    refine⟨.C true (pos+1) g buf bad false ⟨by omega,by omega,b0,by omega,fun _=>⟨f,hf,hgo⟩,fun h=>(by cases h)⟩,by simp only[kA.mu];omega,rfl,by rw[hD]⟩
  |false=>
   obtain⟨f,hf,hgo⟩:=hI.go rfl;by_cases hl:pos<s.length
   ·have hb:Nat.blt pos s.length=true:=by rw[Nat.blt,Nat.ble_eq];exact hl
    have vW:=drop_cons hl;have cd:=sI hl;have cp:=sJ (s:=s) (pos:=pos);obtain⟨f,rfl⟩: ∃f',f=f'+1:=⟨f-1,by omega⟩;by_cases hc:s.getD pos 0=39
    ·have hD:Utf8.decode ⟨s.toArray⟩ pos=(39,1):=by rw[hd1,vW,hc,oo]
     have hR:(((Utf8.decode ⟨s.toArray⟩ pos).1:Int)!=39)=false:=by rw[hD];rfl
     cases fb
     ·rw[show kA.nn (kA.C false pos g buf bad false hI)=4 from rfl]
      by_cases hq1:s.getD (pos+1) 0=39
      ·have hpre:([39,39]:List UInt8).isPrefixOf (s.drop pos)=true:=xT.2 ⟨by rw[bY];exact hc,by rw[bY];exact hq1⟩
       have vV:pos+1<s.length:=by
        rcases Nat.lt_or_ge (pos+1) s.length with h|h
        ·exact h
        ·exfalso;revert hq1;simp[List.getD,List.getElem?_eq_none h]
       have rT:=uo (f:=f) (i:=pos) (l:=s.drop pos) (buf:=buf) (bad:=bad) (by rw[bY];exact hc) (by rw[bY];exact hq1);rw[<- hgo,List.drop_drop]at rT;iterate 40 all_goals ((try conv=>whnf);try first|(with_reducible first|refine zY ?_|refine zN ?_|refine zT ?_|refine br (fun _=> ?_) (fun _=> ?_)|refine⟨rfl,?_⟩|refine au.call (cp) ?_)|(refine Hz (bi:=1) (j:=3) (g:=g) (o:=buf) (c:=39) rfl rfl rfl (by omega) (by omega) (by omega) Nc (by omega) ?_)|(refine bh oS ?_)|(refine bh (gR rfl) ?_))
       refine⟨.C false (pos+1) (g+1) (buf++[39]) bad true ⟨by omega,by omega,by simp,by simp;omega,fun h=>(by cases h),fun _=>⟨vV,hq1,f,by rw[List.length_drop]at hf ⊢;omega,rT⟩⟩,by simp only[kA.mu];omega,rfl,by rw[hD];rfl⟩
      ·have hpre:([39,39]:List UInt8).isPrefixOf (s.drop pos)=false:=by
        rw[Bool.eq_false_iff,ne_eq,xT,bY,bY];exact fun h=>hq1 h.2
       have rT:=uq (f:=f) (i:=pos) (l:=s.drop pos) (buf:=buf) (bad:=bad) (by rw[bY];exact hc) (by rw[bY];exact hq1);rw[<- hgo]at rT;cases bad with
       |true=>
        iterate 40 all_goals ((try conv=>whnf);try first|(with_reducible first|refine zY ?_|refine zN ?_|refine zT ?_|refine br (fun _=> ?_) (fun _=> ?_)|refine⟨rfl,?_⟩|refine au.call (cp) ?_))
        exact leaf (by rw[rT];rfl) (cE _)
       |false=>
        iterate 40 all_goals ((try conv=>whnf);try first|(with_reducible first|refine zY ?_|refine zN ?_|refine zT ?_|refine br (fun _=> ?_) (fun _=> ?_)|refine⟨rfl,?_⟩|refine au.call (cp) ?_)|(refine Cd.call mixed rfl ?_)|(refine Eg (bi:=1) (j:=3) (g:=g) (o:=buf) rfl rfl b0 (by omega) ?_))
        ·have h:=of_decide_eq_true (by assumption:decide ((64:Int)<((buf.length:Nat):Int))=true)
         exact leaf (by rw[rT,if_neg (by decide),if_pos (by omega)];rfl) (cE _)
        ·have h:=of_decide_eq_false (by assumption:decide ((64:Int)<((buf.length:Nat):Int))=false)
         exact leaf (by rw[rT,if_neg (by decide),if_neg (by omega),bL (by omega)];rfl) (cE _)
     ·rw[show kA.nn (kA.C true pos g buf bad false hI)=5 from rfl]
      by_cases hq1:s.getD (pos+1) 0=39
      ·have hpre:([39,39]:List UInt8).isPrefixOf (s.drop pos)=true:=xT.2 ⟨by rw[bY];exact hc,by rw[bY];exact hq1⟩
       have vV:pos+1<s.length:=by
        rcases Nat.lt_or_ge (pos+1) s.length with h|h
        ·exact h
        ·exfalso;revert hq1;simp[List.getD,List.getElem?_eq_none h]
       have rT:=uo (f:=f) (i:=pos) (l:=s.drop pos) (buf:=buf) (bad:=bad) (by rw[bY];exact hc) (by rw[bY];exact hq1);rw[<- hgo,List.drop_drop]at rT;iterate 40 all_goals ((try conv=>whnf);try first|(with_reducible first|refine zY ?_|refine zN ?_|refine zT ?_|refine br (fun _=> ?_) (fun _=> ?_)|refine⟨rfl,?_⟩|refine au.call (cp) ?_)|(refine Hz (bi:=1) (j:=4) (g:=g) (o:=buf) (c:=39) rfl rfl rfl (by omega) (by omega) (by omega) Nd (by omega) ?_)|(refine bh oS ?_)|(refine bh (gR rfl) ?_))
       refine⟨.C true (pos+1) (g+1) (buf++[39]) bad true ⟨by omega,by omega,by simp,by simp;omega,fun h=>(by cases h),fun _=>⟨vV,hq1,f,by rw[List.length_drop]at hf ⊢;omega,rT⟩⟩,by simp only[kA.mu];omega,rfl,by rw[hD];rfl⟩
      ·have hpre:([39,39]:List UInt8).isPrefixOf (s.drop pos)=false:=by
        rw[Bool.eq_false_iff,ne_eq,xT,bY,bY];exact fun h=>hq1 h.2
       have rT:=uq (f:=f) (i:=pos) (l:=s.drop pos) (buf:=buf) (bad:=bad) (by rw[bY];exact hc) (by rw[bY];exact hq1);rw[<- hgo]at rT;cases bad with
       |true=>
        iterate 40 all_goals ((try conv=>whnf);try first|(with_reducible first|refine zY ?_|refine zN ?_|refine zT ?_|refine br (fun _=> ?_) (fun _=> ?_)|refine⟨rfl,?_⟩|refine au.call (cp) ?_))
        exact leaf (by rw[rT];rfl) (cE _)
       |false=>
        iterate 40 all_goals ((try conv=>whnf);try first|(with_reducible first|refine zY ?_|refine zN ?_|refine zT ?_|refine br (fun _=> ?_) (fun _=> ?_)|refine⟨rfl,?_⟩|refine au.call (cp) ?_)|(refine Cd.call mixed rfl ?_)|(refine Eg (bi:=1) (j:=4) (g:=g) (o:=buf) rfl rfl b0 (by omega) ?_))
        ·have h:=of_decide_eq_true (by assumption:decide ((64:Int)<((buf.length:Nat):Int))=true)
         exact leaf (by rw[rT,if_neg (by decide),if_pos (by omega)];rfl) (cE _)
        ·have h:=of_decide_eq_false (by assumption:decide ((64:Int)<((buf.length:Nat):Int))=false)
         exact leaf (by rw[rT,if_neg (by decide),if_neg (by omega),bL (by omega)];rfl) (cE _)
    ·have SS:=zW (r:=s.drop (pos+1)) hc
     rw[<- vW,<-hd1]at SS;have hw1:=decodeL_width (s.drop pos);have Qx:=decodeL_le (s.drop pos) (by rw[vW];simp);rw[<- hd1]at hw1 Qx;have hR:(((Utf8.decode ⟨s.toArray⟩ pos).1:Int)!=39)=true:=by rw[bne_iff_ne];omega
     have ew:=HB (s:=s) (pos:=pos) (w:=(Utf8.decode ⟨s.toArray⟩ pos).2) (by omega)
     have es:(decide (0<=((pos:Nat):Int))&&decide (((pos:Nat):Int)<=IntKind.i64.wrap (((pos:Nat):Int)+((Utf8.decode ⟨s.toArray⟩ pos).2:Int)))&&decide (IntKind.i64.wrap (((pos:Nat):Int)+((Utf8.decode ⟨s.toArray⟩ pos).2:Int))<=((s.length:Nat):Int)))=true:=by
      rw[uB (by omega) (by omega)];simp only[Bool.and_eq_true,decide_eq_true_eq];omega
     have rT:=sD (f:=f) (i:=pos) (l:=s.drop pos) (buf:=buf) (bad:=bad) (by rw[vW];simp) (by rw[bY];exact hc);rw[<- hgo,<-hd1,List.drop_drop]at rT;cases fb
     ·rw[show kA.nn (kA.C false pos g buf bad false hI)=4 from rfl]
      cases bad with
      |true=>
       iterate 40 all_goals ((try conv=>whnf);try first|(with_reducible first|refine zY ?_|refine zN ?_|refine zT ?_|refine br (fun _=> ?_) (fun _=> ?_)|refine⟨rfl,?_⟩|refine au.call (cd) ?_)|(rw[ew];refine uG (bi:=1) (j:=3) (g:=g) (o:=buf) rfl rfl (by omega) (by omega) (by omega) Nc (by rw[List.length_take];omega) (fun g'=> ?_))|(refine bh oS ?_)|(refine bh (gR rfl) ?_))
       refine⟨.C false (pos+(Utf8.decode ⟨s.toArray⟩ pos).2) g' (buf++(s.drop pos).take (Utf8.decode ⟨s.toArray⟩ pos).2) true false ⟨by omega,by omega,by rw[List.length_append];omega,by rw[List.length_append,List.length_take];omega,fun _=>⟨f,by rw[List.length_drop]at hf ⊢;omega,rT⟩,fun h=>(by cases h)⟩,by simp only[kA.mu];omega,rfl,rfl⟩
      |false=>
       iterate 40 all_goals ((try conv=>whnf);try first|(with_reducible first|refine zY ?_|refine zN ?_|refine zT ?_|refine br (fun _=> ?_) (fun _=> ?_)|refine⟨rfl,?_⟩|refine au.call (cd) ?_)|(rw[ew];refine uG (bi:=1) (j:=3) (g:=g) (o:=buf) rfl rfl (by omega) (by omega) (by omega) Nc (by rw[List.length_take];omega) (fun g'=> ?_))|(refine bh oS ?_)|(refine bh (gR rfl) ?_))
       ·have hr:=(by assumption:(((Utf8.decode ⟨s.toArray⟩ pos).1:Int)==65533)=true)
        have e1:((Utf8.decode ⟨s.toArray⟩ pos).1==65533)=true:=by rw[<- iA];exact hr
        have e2:(((Utf8.decode ⟨s.toArray⟩ pos).2:Int)==1)=((Utf8.decode ⟨s.toArray⟩ pos).2==1):=iA _ 1;rw[Bool.false_or,e1,Bool.true_and]at rT;refine⟨.C false (pos+(Utf8.decode ⟨s.toArray⟩ pos).2) g' (buf++(s.drop pos).take (Utf8.decode ⟨s.toArray⟩ pos).2) ((Utf8.decode ⟨s.toArray⟩ pos).2==1) false ⟨by omega,by omega,by rw[List.length_append];omega,by rw[List.length_append,List.length_take];omega,fun _=>⟨f,by rw[List.length_drop]at hf ⊢;omega,rT⟩,fun h=>(by cases h)⟩,by simp only[kA.mu];omega,by rw[e2],rfl⟩
       ·have hr:=(by assumption:(((Utf8.decode ⟨s.toArray⟩ pos).1:Int)==65533)=false)
        have e1:((Utf8.decode ⟨s.toArray⟩ pos).1==65533)=false:=by rw[<- iA];exact hr
        rw[Bool.false_or,e1,Bool.false_and]at rT;refine⟨.C false (pos+(Utf8.decode ⟨s.toArray⟩ pos).2) g' (buf++(s.drop pos).take (Utf8.decode ⟨s.toArray⟩ pos).2) false false ⟨by omega,by omega,by rw[List.length_append];omega,by rw[List.length_append,List.length_take];omega,fun _=>⟨f,by rw[List.length_drop]at hf ⊢;omega,rT⟩,fun h=>(by cases h)⟩,by simp only[kA.mu];omega,rfl,rfl⟩
     ·rw[show kA.nn (kA.C true pos g buf bad false hI)=5 from rfl]
      cases bad with
      |true=>
       iterate 40 all_goals ((try conv=>whnf);try first|(with_reducible first|refine zY ?_|refine zN ?_|refine zT ?_|refine br (fun _=> ?_) (fun _=> ?_)|refine⟨rfl,?_⟩|refine au.call (cd) ?_)|(rw[ew];refine uG (bi:=1) (j:=4) (g:=g) (o:=buf) rfl rfl (by omega) (by omega) (by omega) Nd (by rw[List.length_take];omega) (fun g'=> ?_))|(refine bh oS ?_)|(refine bh (gR rfl) ?_))
       refine⟨.C true (pos+(Utf8.decode ⟨s.toArray⟩ pos).2) g' (buf++(s.drop pos).take (Utf8.decode ⟨s.toArray⟩ pos).2) true false ⟨by omega,by omega,by rw[List.length_append];omega,by rw[List.length_append,List.length_take];omega,fun _=>⟨f,by rw[List.length_drop]at hf ⊢;omega,rT⟩,fun h=>(by cases h)⟩,by simp only[kA.mu];omega,rfl,rfl⟩
      |false=>
       iterate 40 all_goals ((try conv=>whnf);try first|(with_reducible first|refine zY ?_|refine zN ?_|refine zT ?_|refine br (fun _=> ?_) (fun _=> ?_)|refine⟨rfl,?_⟩|refine au.call (cd) ?_)|(rw[ew];refine uG (bi:=1) (j:=4) (g:=g) (o:=buf) rfl rfl (by omega) (by omega) (by omega) Nd (by rw[List.length_take];omega) (fun g'=> ?_))|(refine bh oS ?_)|(refine bh (gR rfl) ?_))
       ·have hr:=(by assumption:(((Utf8.decode ⟨s.toArray⟩ pos).1:Int)==65533)=true)
        have e1:((Utf8.decode ⟨s.toArray⟩ pos).1==65533)=true:=by rw[<- iA];exact hr
        have e2:(((Utf8.decode ⟨s.toArray⟩ pos).2:Int)==1)=((Utf8.decode ⟨s.toArray⟩ pos).2==1):=iA _ 1;rw[Bool.false_or,e1,Bool.true_and]at rT;refine⟨.C true (pos+(Utf8.decode ⟨s.toArray⟩ pos).2) g' (buf++(s.drop pos).take (Utf8.decode ⟨s.toArray⟩ pos).2) ((Utf8.decode ⟨s.toArray⟩ pos).2==1) false ⟨by omega,by omega,by rw[List.length_append];omega,by rw[List.length_append,List.length_take];omega,fun _=>⟨f,by rw[List.length_drop]at hf ⊢;omega,rT⟩,fun h=>(by cases h)⟩,by simp only[kA.mu];omega,by rw[e2],rfl⟩
       ·have hr:=(by assumption:(((Utf8.decode ⟨s.toArray⟩ pos).1:Int)==65533)=false)
        have e1:((Utf8.decode ⟨s.toArray⟩ pos).1==65533)=false:=by rw[<- iA];exact hr
        rw[Bool.false_or,e1,Bool.false_and]at rT;refine⟨.C true (pos+(Utf8.decode ⟨s.toArray⟩ pos).2) g' (buf++(s.drop pos).take (Utf8.decode ⟨s.toArray⟩ pos).2) false false ⟨by omega,by omega,by rw[List.length_append];omega,by rw[List.length_append,List.length_take];omega,fun _=>⟨f,by rw[List.length_drop]at hf ⊢;omega,rT⟩,fun h=>(by cases h)⟩,by simp only[kA.mu];omega,rfl,rfl⟩
   ·have hb:Nat.blt pos s.length=false:=by rw[Bool.eq_false_iff,ne_eq,Nat.blt,Nat.ble_eq];exact hl
    rw[List.drop_of_length_le (by omega),BX]at hgo;cases fb<;>iterate 24 all_goals ((try conv=>whnf);try first|(with_reducible first|refine zY ?_|refine zN ?_|refine zT ?_|refine br (fun _=> ?_) (fun _=> ?_)|refine⟨rfl,?_⟩))
    all_goals exact leaf (by rw[hgo];rfl) (cE _)
end Go.Proofs.YtbjifmbemdhndaaGreatDoor
