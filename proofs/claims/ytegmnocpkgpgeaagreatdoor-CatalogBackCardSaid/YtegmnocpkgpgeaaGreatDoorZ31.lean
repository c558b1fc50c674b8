/- Parts of the proof of PCatalogBack, one behind the other, with short names. -/
import Derived.Test.YtegmnocpkgpgeaaGreatDoorZ21
import Derived.Lib.Bytealg
import Derived.Test.YtegmnocpkgpgeaaGreatDoorZ27
set_option linter.unusedVariables false
set_option linter.unusedSimpArgs false
namespace Ab
open Go
def lf(b:UInt8)(nw:List UInt8):List UInt8->List UInt8
 | []=>[]
 |c::r=>(if c=b then nw else[c])++lf b nw r
theorem p7(b:UInt8)(nw:List UInt8): ∀s t:List UInt8,lf b nw (s++t)=lf b nw s++lf b nw t
 | [],t=>rfl
 |c::r,t=>by simp only[List.cons_append,lf,p7 b nw r t,List.append_assoc]
theorem qw(b:UInt8)(nw:List UInt8): ∀s:List UInt8,s.count b=0->lf b nw s=s
 | [],_=>rfl
 |c::r,h=>by
  have hc:c≠b:=fun e=>by rw[e,List.count_cons_self]at h;omega
  rw[List.count_cons_of_ne hc]at h;rw[lf,if_neg hc,qw b nw r h,List.singleton_append]
theorem Dl(b:UInt8){nw:List UInt8}{k:Nat}(hk:nw.length<=k)(h1:1<=k): ∀s:List UInt8,(lf b nw s).length<=k*s.length
 | []=>by simp[lf]
 |c::r=>by
  have:=Dl b hk h1 r;rw[lf,List.length_append,List.length_cons,Nat.mul_add,Nat.mul_one];split
  ·omega
  ·rw[List.length_singleton];omega
theorem p8(c:UInt8): ∀s:List UInt8,0<s.count c-> ∃p r,s=p++c::r/\p.count c=0/\Lib.indexByte s c=(p.length:Int)
 | [],h=>by simp at h
 |d::s,h=>by
  by_cases hd:d=c
  ·subst hd
   exact⟨[],s,rfl,rfl,by simp[Lib.indexByte]⟩
  ·rw[List.count_cons_of_ne hd]at h
   obtain⟨p,r,h1,h2,h3⟩:=p8 c s h;refine⟨d::p,r,by rw[h1];rfl,by rw[List.count_cons_of_ne hd,h2],?_⟩;rw[Lib.indexByte,if_neg (by simpa using hd),h3,if_neg (by simp only[beq_iff_eq];omega),List.length_cons];omega
end Ab
namespace Go.Proofs.YtegmnocpkgpgeaaGreatDoor
open Ab Go.RowKit
set_option maxRecDepth 100000
theorem yN(s:List UInt8)(b:UInt8):aj Tryz.prog 142 [.str s,.int .u8 b.toNat] (.int .i64 (Lib.indexByte s b)):=by
 refine aG (cP (.str _) (.int _ _)) (E1.call mixed rfl ?_);iterate 3 all_goals ((try conv=>whnf);try first|(with_reducible first|refine zY ?_|refine zN ?_|refine zT ?_|refine br (fun _=> ?_) (fun _=> ?_)|refine⟨rfl,?_⟩))
 refine leaf ?_ (.int _ _);have e:(Int.toNat (b.toNat:Int)).toUInt8=b:=by rw[Int.toNat_natCast];simp
 show SV.int .i64 (Lib.indexByte s (Int.toNat (b.toNat:Int)).toUInt8)=_;rw[e]
theorem II(s:List UInt8)(b:UInt8):aj Tryz.prog 181 [.str s,.str [b]] (.int .i64 (Lib.indexByte s b)):=by
 have h1:aj Tryz.prog 199 [.str s,.str [b]] (.int .i64 (Lib.indexByte s b)):=by
  refine aG (cP (.str _) (.str _)) (KQ.call mixed rfl ?_);iterate 12 all_goals ((try conv=>whnf);try first|(with_reducible first|refine zY ?_|refine zN ?_|refine zT ?_|refine br (fun _=> ?_) (fun _=> ?_)|refine⟨rfl,?_⟩|refine aj.call (yN _ _) ?_))
  ·rename_i h
   have h:=beq_iff_eq.1 h;subst h;exact leaf (by simp[Lib.indexByte]) (.int _ _)
  ·exact leaf rfl (.int _ _)
 refine aG (cP (.str _) (.str _)) (KN.call mixed rfl ?_);iterate 3 all_goals ((try conv=>whnf);try first|(with_reducible first|refine zY ?_|refine zN ?_|refine zT ?_|refine br (fun _=> ?_) (fun _=> ?_)|refine⟨rfl,?_⟩|refine aj.call (h1) ?_))
 exact leaf rfl (.int _ _)
theorem K9{n:Int}{R:bu->Heap->Prop}(h0:0<n)(hn:n<=140737488355328)(hk:R (.ret (.bn [])) ⟨2,[(1,mV 5 0 []),(0,mU 99 0 1 0 0)]⟩):
  aC Tryz.prog 179 [.ref 0 0 0 0,.int .i64 n] ⟨1,[(0,.vec 0 2 [.agg [.eM,.af]] ⟨false,some 99⟩)]⟩ R:=by
 refine RQ.call mixed rfl ?_;have q1:decide (n<0)=false:=decide_eq_false (by omega);have e0:IntKind.i64.wrap (0-0)=0:=by decide
 have q2:decide (IntKind.i64.wrap (0-0)<n)=true:=by rw[e0];exact decide_eq_true h0
 have e1:IntKind.i64.wrap (IntKind.i64.wrap (2*0)+n)=n:=by
  rw[show IntKind.i64.wrap (2*0)=0 by decide,Int.zero_add,CS (by omega) (by omega)]
 have q3:(decide (0<=IntKind.i64.wrap (IntKind.i64.wrap (2*0)+n))&&decide (IntKind.i64.wrap (IntKind.i64.wrap (2*0)+n)<=140737488355328))=true:=by
  rw[e1,decide_eq_true (show 0<=n by omega),decide_eq_true hn];rfl
 iterate 30 all_goals ((try conv=>whnf);try first|(with_reducible first|refine zY ?_|refine zN ?_|refine zT ?_|refine br (fun _=> ?_) (fun _=> ?_)|refine⟨rfl,?_⟩)|(refine sK.call mixed rfl ?_)|(refine R2.call mixed rfl ?_))
 exact hk
theorem zD(s:List UInt8)(b:UInt8):aj Tryz.prog 180 [.str s,.str [b]] (.int .i64 (s.count b)):=by
 refine aG (cP (.str _) (.str _)) (KM.call mixed rfl ?_);iterate 8 all_goals ((try conv=>whnf);try first|(with_reducible first|refine zY ?_|refine zN ?_|refine zT ?_|refine br (fun _=> ?_) (fun _=> ?_)|refine⟨rfl,?_⟩))
 refine leaf ?_ (.int _ _);have e:(Int.toNat (([b].getD (Int.toNat 0) 0).toNat:Int)).toUInt8=b:=by rw[Int.toNat_natCast];simp
 show SV.int .i64 ((Lib.countByte s (Int.toNat (([b].getD (Int.toNat 0) 0).toNat:Int)).toUInt8:Nat):Int)=_;rw[e];rfl
theorem Yl{g n:Nat}{o:List UInt8}:QH [(1,mV 5 g o),(0,mU 99 0 1 g n)] 2:=by
 intro i ob h;unfold ak at h;split at h
 ·cases h;rename_i h;subst h;exact⟨by omega,sH⟩
 ·unfold ak at h
  split at h
  ·cases h;rename_i h;subst h;exact⟨by omega,fun v hv=>by simp only[List.mem_singleton]at hv;subst hv;rfl⟩
  ·cases h
theorem Ym{g:Nat}{o s:List UInt8}{R:bu->Heap->Prop}(hlen:o.length+s.length<=140737488355328)
  (hk: ∀g',R (.ret (.bn [.int .i64 s.length,.dF])) ⟨2,[(1,mV 5 g' (o++s)),(0,mU 99 0 1 g' (o++s).length)]⟩):
  aC Tryz.prog 33 [.ref 0 0 0 0,.str s] ⟨2,[(1,mV 5 g o),(0,mU 99 0 1 g o.length)]⟩ R:=
 w5 (bi:=0) (j:=1) rfl rfl (by omega) (by omega) (by omega) Yl hlen hk
structure RpS(b:UInt8)(nw s:List UInt8) where
 k:Nat
 p:List UInt8
 r:List UInt8
 g:Nat
 hs:s=p++r
 hk:k+r.count b=s.count b
theorem Dm{b:UInt8}{nw s:List UInt8}(hne:nw≠[b])(h1:1<=nw.length)(h4:nw.length<=4)(hs:s.length<=1099511627776):
  aj Tryz.prog 141 [.str s,.str [b],.str nw,.int .i64 (-1)] (.str (lf b nw s)):=by
 refine aG (T3 (.str _) (.str _) (.str _) (.int _ _)) (KD.call mixed rfl ?_);have q1:([b]==nw)=false:=beq_eq_false_iff_ne.2 fun h=>hne h.symm
 by_cases hc:s.count b=0
 ·have q2:(((s.count b:Nat):Int)==0)=true:=by rw[beq_iff_eq];omega
  iterate 12 all_goals ((try conv=>whnf);try first|(with_reducible first|refine zY ?_|refine zN ?_|refine zT ?_|refine br (fun _=> ?_) (fun _=> ?_)|refine⟨rfl,?_⟩|refine aj.call (zD _ _) ?_))
  exact leaf (by rw[qw b nw s hc]) (.str _)
 have q2:(((s.count b:Nat):Int)==0)=false:=by rw[beq_eq_false_iff_ne];omega
 have eD:s.count b<=s.length:=List.count_le_length;have hm:s.count b*(nw.length-1)<=s.length*3:=Nat.mul_le_mul eD (by omega)
 have em:((s.count b:Nat):Int)*((nw.length:Int)-1)=((s.count b*(nw.length-1):Nat):Int):=by
  rw[Int.natCast_mul,show((nw.length-1:Nat):Int)=(nw.length:Int)-1 by omega]
 have en:IntKind.i64.wrap ((s.length:Int)+IntKind.i64.wrap (((s.count b:Nat):Int)*IntKind.i64.wrap ((nw.length:Int)-1)))=((s.length+s.count b*(nw.length-1):Nat):Int):=by
  rw[CS (x:=(nw.length:Int)-1) (by omega) (by omega),em,CS (x:=((s.count b*(nw.length-1):Nat):Int)) (by omega) (by omega),CS (by omega) (by omega)];omega
 have hpos:0<s.length:=by omega
 have gr: ∀ {R:bu->Heap->Prop},R (.ret (.bn [])) ⟨2,[(1,mV 5 0 []),(0,mU 99 0 1 0 0)]⟩->aC Tryz.prog 179 [.ref 0 0 0 0,.int .i64 (IntKind.i64.wrap ((s.length:Int)+IntKind.i64.wrap (((s.count b:Nat):Int)*IntKind.i64.wrap ((nw.length:Int)-1))))] ⟨1,[(0,.vec 0 2 [.agg [.eM,.af]] ⟨false,some 99⟩)]⟩ R:=fun h=>by
  rw[en];exact K9 (by omega) (by omega) h
 iterate 20 all_goals ((try conv=>whnf);try first|(with_reducible first|refine zY ?_|refine zN ?_|refine zT ?_|refine br (fun _=> ?_) (fun _=> ?_)|refine⟨rfl,?_⟩|refine aj.call (zD _ _) ?_)|(refine gr ?_))
 refine nU (σ:=RpS b nw s) (fun q=>[(0,SV.str s),(1,SV.str [b]),(2,SV.str nw),(3,SV.int IntKind.i64 ((s.count b:Nat):Int)),(8,SV.str []),(22,SV.bool false),(9,SV.int IntKind.i64 ((s.count b:Nat):Int)),(28,SV.bool false),(36,SV.bool true),(10,SV.ref 0 0 0 0),(11,SV.int IntKind.i64 q.p.length),(51,SV.bool true),(52,SV.int IntKind.i64 ((s.count b:Nat):Int)),(53,SV.int IntKind.i64 q.k)])
  (fun q=>⟨2,[(1,mV 5 q.g (lf b nw q.p)),(0,mU 99 0 1 q.g (lf b nw q.p).length)]⟩) (fun q=>s.count b-q.k) ?_ ⟨0,[],s,0,rfl,by omega⟩
 rintro⟨k,p,r,g,Ic,hk⟩;dsimp only;have Av:p.length+r.length=s.length:=by rw[Ic,List.length_append]
 have hrp:=Dl b (nw:=nw) (k:=4) h4 (by omega) p;by_cases hlt:k<s.count b
 ·have hd:decide ((k:Int)<((s.count b:Nat):Int))=true:=decide_eq_true (by omega)
  obtain⟨q,r',e1,e2,e3⟩:=p8 b r (by omega);have Zi:q.length+(r'.length+1)=r.length:=by rw[e1];simp
  have es:(s.drop (p.length:Int).toNat).take ((s.length:Int).toNat-(p.length:Int).toNat)=r:=by
   rw[Int.toNat_natCast,Int.toNat_natCast,List.take_of_length_le (by simp),Ic,List.drop_left]
  have ci:aj Tryz.prog 181 [.str ((s.drop (p.length:Int).toNat).take ((s.length:Int).toNat-(p.length:Int).toNat)),.str [b]] (.int .i64 q.length):=by
   rw[es,<-e3];exact II _ _
  have ej:IntKind.i64.wrap ((p.length:Int)+(q.length:Int))=((p.length+q.length:Nat):Int):=by rw[CS (by omega) (by omega)];omega
  have e5:IntKind.i64.wrap (IntKind.i64.wrap ((p.length:Int)+(q.length:Int))+(([b].length:Nat):Int))=((p.length+(q.length+1):Nat):Int):=by rw[List.length_singleton,ej,CS (by omega) (by omega)];omega
  have e8:lf b nw (p++(q++[b]))=lf b nw p++q++nw:=by
   rw[p7,p7,qw b nw q e2,List.append_assoc];simp[lf]
  have eq:(s.drop (p.length:Int).toNat).take ((IntKind.i64.wrap ((p.length:Int)+(q.length:Int))).toNat-(p.length:Int).toNat)=q:=by
   rw[ej,Int.toNat_natCast,Int.toNat_natCast,Nat.add_sub_cancel_left,Ic,List.drop_left,e1,List.take_left]
  have e7:IntKind.i64.wrap ((k:Int)+1)=((k+1:Nat):Int):=bf (by omega);iterate 30 all_goals ((try conv=>whnf);try first|(with_reducible first|refine zY ?_|refine zN ?_|refine zT ?_|refine br (fun _=> ?_) (fun _=> ?_)|refine⟨rfl,?_⟩|refine aj.call (ci) ?_)|(rw[eq];refine Ym (by omega) (fun g1=> ?_))|(refine Ym (by rw[List.length_append];omega) (fun g2=> ?_)))
  refine⟨⟨k+1,p++(q++[b]),r',g2,by rw[Ic,e1];simp,by rw[e1,List.count_append,List.count_cons_self,e2]at hk;omega⟩,by dsimp only;omega,?_,?_⟩
  ·rw[e7,e5];simp only[List.length_append,List.length_singleton]
  ·dsimp only;rw[e8]
 ·have hd:decide ((k:Int)<((s.count b:Nat):Int))=false:=decide_eq_false (by omega)
  have zh:r.count b=0:=by have:r.count b<=s.count b:=by rw[Ic,List.count_append];omega
                          omega
  have es:(s.drop (p.length:Int).toNat).take ((s.length:Int).toNat-(p.length:Int).toNat)=r:=by
   rw[Int.toNat_natCast,Int.toNat_natCast,List.take_of_length_le (by simp),Ic,List.drop_left]
  have e8:lf b nw s=lf b nw p++r:=by rw[Ic,p7,qw b nw r zh]
  have JF:0<(lf b nw p++r).length:=by
   rw[<- e8];obtain⟨q,r',e1,e2,e3⟩:=p8 b s (by omega);rw[e1,p7,lf,if_pos rfl];simp only[List.length_append];omega
  iterate 30 all_goals ((try conv=>whnf);try first|(with_reducible first|refine zY ?_|refine zN ?_|refine zT ?_|refine br (fun _=> ?_) (fun _=> ?_)|refine⟨rfl,?_⟩)|(rw[es];refine Ym (by omega) (fun g1=> ?_))|(refine Sr (g:=g1) (o:=lf b nw p++r) rfl rfl JF (by rw[List.length_append];omega) (fun l'=> ?_)))
  exact leaf (by rw[e8]) (.str _)
theorem xo{b:UInt8}{nw s:List UInt8}(hne:nw≠[b])(h1:1<=nw.length)(h4:nw.length<=4)(hs:s.length<=1099511627776):
  aj Tryz.prog 94 [.str s,.str [b],.str nw] (.str (lf b nw s)):=by
 refine aG (pY (.str _) (.str _) (.str _)) (PI.call mixed rfl ?_);iterate 4 all_goals ((try conv=>whnf);try first|(with_reducible first|refine zY ?_|refine zN ?_|refine zT ?_|refine br (fun _=> ?_) (fun _=> ?_)|refine⟨rfl,?_⟩|refine aj.call (Dm hne h1 h4 hs) ?_))
 exact leaf rfl (.str _)
end Go.Proofs.YtegmnocpkgpgeaaGreatDoor
