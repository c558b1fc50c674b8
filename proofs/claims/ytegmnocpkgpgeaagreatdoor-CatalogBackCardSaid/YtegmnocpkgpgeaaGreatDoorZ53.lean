/- Parts of the proof of PCatalogBack, one behind the other, with short names. -/
import Derived.Test.YtegmnocpkgpgeaaGreatDoorZ52
import Derived.Test.YtegmnocpkgpgeaaGreatDoorZ43
import Derived.Test.YtegmnocpkgpgeaaGreatDoorZ44
import Derived.Test.YtegmnocpkgpgeaaGreatDoorZ38
set_option linter.unusedVariables false
set_option linter.unusedSimpArgs false
namespace Go.Proofs.YtegmnocpkgpgeaaGreatDoor
open Ab Go.RowKit
set_option maxRecDepth 100000
set_option maxHeartbeats 4000000
attribute [local irreducible] aS bH
section
def WL(b:Bool)(ys:List Tk)(h':Heap):Prop:= ∃g,h'.obj 0=some (qH b (.sl 1 g 4 0 ys.length none))/\h'.obj 1=some (vQ g ys)
def WN(b:Bool)(ys:List Tk)(h':Heap):Prop:=(ys=[]/\h'.obj 0=some (qH b .af))\/(ys≠[]/\ ∃j g,0<j/\h'.obj 0=some (qH b (.sl j g 4 0 ys.length none))/\h'.obj j=some (vQ g ys))
theorem WL.of{b:Bool}{ys zs:List Tk}{n g:Nat}{h':Heap}(e:zs=ys)(hn:n=zs.length)(h0:h'.obj 0=some (qH b (.sl 1 g 4 0 n none)))(h1:h'.obj 1=some (vQ g zs)):WL b ys h':=by
 subst e;subst hn;exact⟨g,h0,h1⟩
theorem WN.of{b:Bool}{ys zs:List Tk}{n j g:Nat}{h':Heap}(e:zs=ys)(hne:zs≠[])(hj:0<j)(hn:n=zs.length)(h0:h'.obj 0=some (qH b (.sl j g 4 0 n none)))(h1:h'.obj j=some (vQ g zs)):WN b ys h':=by
 subst e;subst hn;exact .inr ⟨hne,j,g,hj,h0,h1⟩
theorem WN.nil{b:Bool}{ys:List Tk}{h':Heap}(e:[]=ys)(h0:h'.obj 0=some (qH b .af)):WN b ys h':=by
 subst e;exact .inl ⟨rfl,h0⟩
theorem WC.of{f:FuncId}{us:List SV}{b b':Bool}{xs ys:List Tk}(hl: ∀a∈us,aL a)
  (hN:xs=[]->aC Tryz.prog f (.ref 0 0 0 0::us) ⟨1,[(0,qH b .af)]⟩ fun r h'=>r= .ret (.bn [])/\WN b' ys h')
  (hL:xs≠[]-> ∀g,aC Tryz.prog f (.ref 0 0 0 0::us) ⟨2,[(1,vQ g xs),(0,qH b (.sl 1 g 4 0 xs.length none))]⟩ fun r h'=>r= .ret (.bn [])/\WL b' ys h'):WC f us b b' xs ys:=by
 refine⟨hl,Bv b,Bv b',tn _,tn _,fun h hh=> ?_⟩;cases xs with
 |nil=>
  cases hh
  refine(hN rfl).mono fun r h' ⟨h1,h2⟩=>⟨h1,?_⟩
  rcases h2 with⟨rfl,h2⟩|⟨hne,j,g,hj,h3,h4⟩
  ·exact h2
  ·exact WE.E (by simpa using hne) hj (by simp) h3 h4
 |cons x xr=>
  cases hh
  rename_i g;rw[show (List.map D3 xr).length+1=(x::xr).length by simp];refine(hL (by simp) g).mono fun r h' ⟨h1,g',h2,h3⟩=>⟨h1,WE.L (x:=D3 x) (xs:=xr.map D3) (by simp) h2 h3⟩
theorem Hu(xs:List Tk):(xs.map D3).length=xs.length:=List.length_map ..
section
variable {f:FuncId} {us:List SV} {b b':Bool} {xs ys:List Tk} {i j n m g:Nat} {l:List (Nat×ai)} {R:bu->Heap->Prop}
theorem WC.L(hp:WC f us b b' xs ys)(hi:ak l i=some (qH b (.sl j g 4 0 m none)))(hj:ak l j=some (vQ g xs))(hm:m=xs.length)(hx:xs≠[])(hij:Nat.beq i j=false)
  (hR: ∀g',R (.ret (.bn [])) ⟨n,bt (bt l i (qH b' (.sl j g' 4 0 ys.length none))) j (vQ g' ys)⟩):aC Tryz.prog f (.ref i 0 0 0::us) ⟨n,l⟩ R:=by
 subst hm;refine ry.V0 hp hi hj (by simp) (by simpa using hx) (fun h=>by subst h;rw[Nat.beq_refl]at hij;cases hij) fun g'=> ?_
 rw[Hu];exact hR g'
theorem WC.N(hp:WC f us b b' [] ys)(hi:ak l i=some (qH b .af))(hy:ys≠[])
  (hR: ∀g',R (.ret (.bn [])) ⟨n+1,(n,vQ g' ys)::bt l i (qH b' (.sl n g' 4 0 ys.length none))⟩):aC Tryz.prog f (.ref i 0 0 0::us) ⟨n,l⟩ R:=by
 refine ry.V2 hp (by simpa using hy) hi fun g'=> ?_
 rw[Hu];exact hR g'
theorem WC.Z(hp:WC f us b b' [] [])(hi:ak l i=some (qH b .af))(hR:R (.ret (.bn [])) ⟨n,bt l i (qH b' .af)⟩):aC Tryz.prog f (.ref i 0 0 0::us) ⟨n,l⟩ R:=
 ry.V1 hp hi hR
theorem oe(ws:List (List UInt8)){k:Nat}{sk:Sk}(hw:ws.length<=1000)(hi:ak l i=some (qH b (.sl j g 4 0 m none)))(hj:ak l j=some (vQ g xs))(hk:ak l k=some (.vec 0 1 (ws.map SV.str) sk))(hm:m=xs.length)(hx:xs≠[])(hij:Nat.beq i j=false)(hik:Nat.beq i k=false)(hjk:Nat.beq j k=false)(hl:xs.length<=60000)
  (hR: ∀g',R (.ret (.bn [])) ⟨n,bt (bt (cE (fun q=>Nat.beq q k) l) i (qH b (.sl j g' 4 0 (xs++ws.map aZ).length none))) j (vQ g' (xs++ws.map aZ))⟩):aC Tryz.prog 111 [.ref i 0 0 0,.sl k 0 1 0 ws.length (some ws.length)] ⟨n,l⟩ R:=by
 refine aC.C6 (fun q=>Nat.beq q k) (.same (.mW (qx (s:=ws) (g:=0) (sk:=sk) ?_ rfl) .nil)) ((Ht hw hl).L (g:=g) ?_ ?_ hm hx hij hR)
 ·show ak (kL _ l) k=_
  rw[mD,if_pos (Nat.beq_refl k)];exact hk
 ·rw[fB,if_neg (by rw[hik];decide)]
  exact hi
 ·rw[fB,if_neg (by rw[hjk];decide)]
  exact hj
theorem Wj(ws:List (List UInt8)){k:Nat}{sk:Sk}(hw:ws.length<=1000)(hi:ak l i=some (qH b .af))(hk:ak l k=some (.vec 0 1 (ws.map SV.str) sk))(hik:Nat.beq i k=false)(hne:ws≠[])
  (hR: ∀g',R (.ret (.bn [])) ⟨n+1,(n,vQ g' (ws.map aZ))::bt (cE (fun q=>Nat.beq q k) l) i (qH b (.sl n g' 4 0 (ws.map aZ).length none))⟩):aC Tryz.prog 111 [.ref i 0 0 0,.sl k 0 1 0 ws.length (some ws.length)] ⟨n,l⟩ R:=by
 refine aC.C6 (fun q=>Nat.beq q k) (.same (.mW (qx (s:=ws) (g:=0) (sk:=sk) ?_ rfl) .nil)) ((Ht (xs:=[]) hw (by simp)).N ?_ (by simpa using hne) hR)
 ·show ak (kL _ l) k=_
  rw[mD,if_pos (Nat.beq_refl k)];exact hk
 ·rw[fB,if_neg (by rw[hik];decide)]
  exact hi
end
end
@[reducible] def Wk (k:Nat):ai:= .vec 0 1 [.ref k 0 0 0] ⟨false,some 144⟩
theorem vR{ns:List (List UInt8)}:(kJ ns).length<=2*ns.length:=by
 cases ns with
 |nil=>exact Nat.le_refl _
 |cons n r=>
  unfold kJ
  have:(r.flatMap fun m=>[aZ [44],aZ m]).length=2*r.length:=by
   induction r with
   |nil=>rfl
   |cons m r ih=>rw[List.flatMap_cons,List.length_append,ih,List.length_cons,List.length_cons];simp;omega
  rw[List.length_cons,this,List.length_cons];omega
theorem MG{ns:List (List UInt8)}{i:Nat}(h:i<ns.length):kJ (ns.take (i+1))=kJ (ns.take i)++((if 0<i then[aZ [44]]else[])++[aZ ns[i]]):=by
 cases ns with
 |nil=>simp at h
 |cons n r=>
  cases i with
  |zero=>rfl
  |succ i=>
   have h2:i<r.length:=by simpa using h
   rw[List.take_succ_cons,List.take_succ_cons,kJ,kJ,List.take_add_one,List.getElem?_eq_getElem h2,List.flatMap_append,if_pos (by omega)];simp
theorem yj{ns:List (List UInt8)}{nN:Nat}{gN:Nat->SV}{b:Bool}{xs:List Tk}(hn:nN=ns.length)(hg: ∀i (hi:i<ns.length),gN i= .str ns[i])(hl:ns.length<=1000)(hx:xs≠[])(hxl:xs.length<=50000):WC 112 [.aW 1 nN gN] b b xs (xs++fR ns):=by
 refine WC.of (di (.aW _ _ _)) (fun h=>absurd h hx) fun _ g=> ?_
 refine Q8.call mixed rfl ?_;subst hn;iterate 60 all_goals ((try conv=>whnf);try first|(with_reducible first|refine zY ?_|refine zN ?_|refine zT ?_|refine br (fun _=> ?_) (fun _=> ?_)|refine⟨rfl,?_⟩)|(refine oe [_] (by show 1<=1000;decide) rfl rfl rfl rfl hx rfl rfl rfl (by omega) fun g'=> ?_)|(refine Q9.call mixed rfl ?_))
 have YS:xs++List.map aZ [[40]]=xs++[aZ [40]]++kJ (ns.take 0):=by simp[kJ]
 rw[YS]
 refine iq (σ:={i:Nat // i<=ns.length}×Nat) false (fun y=>[(0,.ref 0 0 0 0),(0+1,.int .i64 ns.length),(0+1+1,.func (.func 170) [] [.ref 2 0 0 0,.ref (2+1) 0 0 0]),(7,.int .i64 ns.length),(8,.int .i64 (y.1.1:Nat))])
  (fun y=>⟨5,[(3,.vec 0 1 [.aW 1 ns.length gN] ⟨false,some 82⟩),(2,Wk 0),(1,vQ y.2 (xs++[aZ [40]]++kJ (ns.take y.1.1))),(0,qH b (.sl 1 y.2 4 0 (xs++[aZ [40]]++kJ (ns.take y.1.1)).length none))]⟩) (fun y=>ns.length-y.1.1) ?_ (⟨0,Nat.zero_le _⟩,g')
 rintro⟨⟨i,hi⟩,g⟩;dsimp only;have e7:IntKind.i64.wrap ((i:Int)+1)=((i+1:Nat):Int):=bf (by omega);have et:=Int.toNat_natCast i
 have hYl:(xs++[aZ [40]]++kJ (ns.take i)).length<=55000:=by
  have:=vR (ns:=ns.take i);rw[List.length_take]at this;simp only[List.length_append,List.length_singleton];omega
 have BD:xs++[aZ [40]]++kJ (ns.take i)≠[]:=by simp
 by_cases hil:i<ns.length
 ·have hd:decide ((i:Int)<(ns.length:Int))=true:=decide_eq_true (by omega)
  have hb:(decide (0<=(i:Int))&&decide ((i:Int)<(ns.length:Int)))=true:=by simp only[Bool.and_eq_true,decide_eq_true_eq];omega
  have eg:gN (i:Int).toNat= .str ns[i]:=by rw[et];exact hg _ hil
  have hs:=MG hil;have hYs:xs++[aZ [40]]++kJ (ns.take (i+1))=xs++[aZ [40]]++kJ (ns.take i)++(if 0<i then[aZ [44]]else[])++[aZ ns[i]]:=by rw[hs];simp only[List.append_assoc]
  generalize xs++[aZ [40]]++kJ (ns.take i)=Y at*;generalize ns[i]=nm at*;by_cases h0:0<i
  ·have hd0:decide ((i:Int)>0)=true:=decide_eq_true (by omega)
   rw[if_pos h0]at hYs;iterate 60 all_goals ((try conv=>whnf);try first|(with_reducible first|refine zY ?_|refine zN ?_|refine zT ?_|refine br (fun _=> ?_) (fun _=> ?_)|refine⟨rfl,?_⟩)|(rewrite [eg])|(refine oe [_] (by show 1<=1000;decide) rfl rfl rfl rfl (by first|exact BD|simp) rfl rfl rfl (by first|omega|(simp;omega)) fun g'=> ?_)|(refine KK.call mixed rfl ?_))
   refine⟨fun _=>false,_,_,5,Nat.le_refl 5,bh,.refl,?_⟩;iterate 14 all_goals ((try conv=>whnf);try first|(with_reducible first|refine zY ?_|refine zN ?_|refine zT ?_|refine br (fun _=> ?_) (fun _=> ?_)|refine⟨rfl,?_⟩)|(refine au (fN rfl) ?_)|(refine au MF ?_))
   exact⟨(⟨i+1,hil⟩,g'),by dsimp only;omega,by rw[e7],by dsimp only;rw[hYs];rfl⟩
  ·have hd0:decide ((i:Int)>0)=false:=decide_eq_false (by omega)
   rw[if_neg h0]at hYs;iterate 60 all_goals ((try conv=>whnf);try first|(with_reducible first|refine zY ?_|refine zN ?_|refine zT ?_|refine br (fun _=> ?_) (fun _=> ?_)|refine⟨rfl,?_⟩)|(rewrite [eg])|(refine oe [_] (by show 1<=1000;decide) rfl rfl rfl rfl (by first|exact BD|simp) rfl rfl rfl (by first|omega|(simp;omega)) fun g'=> ?_)|(refine KK.call mixed rfl ?_))
   refine⟨fun _=>false,_,_,5,Nat.le_refl 5,bh,.refl,?_⟩;iterate 14 all_goals ((try conv=>whnf);try first|(with_reducible first|refine zY ?_|refine zN ?_|refine zT ?_|refine br (fun _=> ?_) (fun _=> ?_)|refine⟨rfl,?_⟩)|(refine au (fN rfl) ?_)|(refine au MF ?_))
   exact⟨(⟨i+1,hil⟩,g'),by dsimp only;omega,by rw[e7],by dsimp only;rw[hYs,List.append_nil];rfl⟩
 ·have hd:decide ((i:Int)<(ns.length:Int))=false:=decide_eq_false (by omega)
  obtain rfl:i=ns.length:=by omega
  rw[List.take_length]at*;iterate 60 all_goals ((try conv=>whnf);try first|(with_reducible first|refine zY ?_|refine zN ?_|refine zT ?_|refine br (fun _=> ?_) (fun _=> ?_)|refine⟨rfl,?_⟩)|(refine oe [_] (by show 1<=1000;decide) rfl rfl rfl rfl (by first|exact BD|simp) rfl rfl rfl (by first|omega|(simp;omega)) fun g'=> ?_))
  exact WL.of (by simp[fR]) rfl rfl rfl
section
def Qg:ai:= .map [(.str [105,110,116],.int .u8 2,0),(.str [116,101,120,116],.int .u8 3,1),(.str [98,111,111,108],.int .u8 1,2)] 3
theorem r6{n:Nat}{l:List (Nat×ai)}{R:bu->Heap->Prop}(hR:R (.ret (.cW n 0)) ⟨n+1,(n,Qg)::l⟩):aC Tryz.prog 119 [] ⟨n,l⟩ R:=by
 refine aC.fresh (o:=Qg) fJ (fun _=> .map ..) (KC.call mixed rfl ?_) hR;iterate 60 all_goals ((try conv=>whnf);try first|(with_reducible first|refine zY ?_|refine zN ?_|refine zT ?_|refine br (fun _=> ?_) (fun _=> ?_)|refine⟨rfl,?_⟩))
 exact⟨0,rfl,rfl⟩
@[reducible] def MH (kind:Int) (name eH:List UInt8) (nC:Nat) (gC:Nat->SV) (nK:Nat) (gK:Nat->SV) (nN:Nat) (gN:Nat->SV) (r i f g o t:Nat×(Nat->SV)) (uniq:Bool) (wh:Ex) (limit:Int):SV:= .agg (W3 kind name eH (.aW 3 nC gC) (.aW 1 nK gK) uniq (.aW 1 nN gN) (.aW 1 r.1 r.2) (.aW 11 i.1 i.2) (.aW 11 f.1 f.2) wh (.aW 9 g.1 g.2) (.aW 10 o.1 o.2) limit (.aW 11 t.1 t.2))
theorem Hv{kind:Int}{name eH:List UInt8}{nC nK nN:Nat}{gC gK gN:Nat->SV}{r i f g o t:Nat×(Nat->SV)}{uniq:Bool}{wh:Ex}{limit:Int}:aL (MH kind name eH nC gC nK gK nN gN r i f g o t uniq wh limit):= .agg (dP rfl)
@[reducible] def OU (v:SV):ai:= .vec 0 23 [v] ⟨false,some 93⟩
def uw(name:List UInt8):List Tk:=[aZ [99,114,101,97,116,101],aZ [116,97,98,108,101],aZ name,aZ [40]]
theorem yl: ∀cs:List fH,(cs.flatMap kR).length<=5*cs.length
 | []=>Nat.zero_le _
 |c::r=>by
  have:=yl r;have h2:(kR c).length<=5:=by obtain⟨a,b,d⟩:=c;cases d<;>simp[kR,P5]
  rw[List.flatMap_cons,List.length_append,List.length_cons];omega
theorem ym{Y:List Tk}{cn:List UInt8}{k:Int}{b:Bool}:Y++[aZ cn]++[aZ (zO k)]++P5 b++[aZ [44]]=Y++kR ⟨cn,k,b⟩:=by simp[kR]
section
variable {name eH:List UInt8} {nC nK nN:Nat} {gC gK gN:Nat->SV} {a1 a2 a3 a4 a5 a6:Nat×(Nat->SV)} {uniq:Bool} {wh:Ex} {limit:Int} {aq:List fH} {key:List (List UInt8)}
theorem FU(S4:nC=aq.length)(DS: ∀i (hi:i<aq.length),gC i=gQ aq[i])(hC: ∀c∈aq,c.kd=1\/c.kd=2\/c.kd=3)(eD:aq.length<=1000)(YN:nK=key.length)(YM: ∀i (hi:i<key.length),gK i= .str key[i])(M5:key.length<=1000):
  WC 69 [MH 5 name eH nC gC nK gK nN gN a1 a2 a3 a4 a5 a6 uniq wh limit] false false [] (pz {kind:=5,name:=name,aq:=aq,key:=key}):=by
 refine WC.of (di Hv) (fun _=> ?_) fun h=>absurd rfl h
 refine PG.call mixed rfl ?_;subst S4;subst YN
 iterate 60 all_goals ((try conv=>whnf);try first|(with_reducible first|refine zY ?_|refine zN ?_|refine zT ?_|refine br (fun _=> ?_) (fun _=> ?_)|refine⟨rfl,?_⟩)|(refine Wj [_,_,_,_] (by show 4<=1000;decide) rfl rfl rfl (by simp) fun g'=> ?_))
 have YS:List.map aZ [[99,114,101,97,116,101],[116,97,98,108,101],name,[40]]=uw name++(aq.take 0).flatMap kR:=by simp[uw]
 rw[YS]
 refine iq (σ:={i:Nat // i<=aq.length}×Nat) false (fun y=>[(0,.ref 0 0 0 0),(0+1,MH 5 name eH aq.length gC key.length gK nN gN a1 a2 a3 a4 a5 a6 uniq wh limit),(2,.ref 1 0 0 0),(3,.ref (1+1) 0 0 0),(9,.int .u8 5),(13,.bool false),(18,.bool false),(42,.bool false),(59,.bool false),(70,.bool true),(78,.aW 3 aq.length gC),(79,.int .i64 aq.length),(80,.int .i64 (y.1.1:Nat))])
  (fun y=>⟨5,[(4,vQ y.2 (uw name++(aq.take y.1.1).flatMap kR)),(2,OU (MH 5 name eH aq.length gC key.length gK nN gN a1 a2 a3 a4 a5 a6 uniq wh limit)),(1,Wk 0),(0,qH false (.sl 4 y.2 4 0 (uw name++(aq.take y.1.1).flatMap kR).length none))]⟩) (fun y=>aq.length-y.1.1) ?_ (⟨0,Nat.zero_le _⟩,g')
 rintro⟨⟨i,hi⟩,g⟩;dsimp only;have e7:IntKind.i64.wrap ((i:Int)+1)=((i+1:Nat):Int):=bf (by omega);have et:=Int.toNat_natCast i
 have hYl:(uw name++(aq.take i).flatMap kR).length<=10000:=by
  have:=yl (aq.take i);rw[List.length_take]at this;simp only[List.length_append,uw,List.length_cons,List.length_nil];omega
 have BD:uw name++(aq.take i).flatMap kR≠[]:=by simp[uw]
 by_cases hil:i<aq.length
 ·have hd:decide ((i:Int)<(aq.length:Int))=true:=decide_eq_true (by omega)
  have hb:(decide (0<=(i:Int))&&decide ((i:Int)<(aq.length:Int)))=true:=by simp only[Bool.and_eq_true,decide_eq_true_eq];omega
  have eg:gC (i:Int).toNat=gQ aq[i]:=by rw[et];exact DS _ hil
  have hk:=hC aq[i] (List.getElem_mem hil);have hYs:uw name++(aq.take (i+1)).flatMap kR=uw name++(aq.take i).flatMap kR++kR aq[i]:=by rw[List.take_add_one,List.getElem?_eq_getElem hil,List.flatMap_append,List.append_assoc];simp
  generalize uw name++(aq.take i).flatMap kR=Y at*;generalize B6:aq[i]=c at*;clear B6;obtain⟨cn,ck,cb⟩:=c;dsimp only at hk eg hYs;rcases hk with rfl|rfl|rfl
  ·iterate 80 all_goals ((try conv=>whnf);try first|(with_reducible first|refine zY ?_|refine zN ?_|refine zT ?_|refine br (fun _=> ?_) (fun _=> ?_)|refine⟨rfl,?_⟩)|(rewrite [eg])|(refine oe [_] (by show 1<=1000;decide) rfl rfl rfl rfl (by first|exact BD|simp) rfl rfl rfl (by first|omega|(simp;omega)) fun g'=> ?_)|(refine r6 ?_))
   refine dR.out 3 (fun _=>[(0,.ref 0 0 0 0),(0+1,MH 5 name eH aq.length gC key.length gK nN gN a1 a2 a3 a4 a5 a6 uniq wh limit),(2,.ref 1 0 0 0),(3,.ref (1+1) 0 0 0),(9,.int .u8 5),(13,.bool false),(18,.bool false),(42,.bool false),(59,.bool false),(70,.bool true),(78,.aW 3 aq.length gC),(79,.int .i64 aq.length),(80,.int .i64 (i:Nat)),(5,.ref 5 0 0 0)])
    (fun g'=>⟨10,[(5,.vec 0 3 [.agg [.str cn,.int .u8 1,.bool cb]] ⟨false,some 76⟩),(4,vQ g' (Y++[aZ cn]++[aZ [98,111,111,108]])),(2,OU (MH 5 name eH aq.length gC key.length gK nN gN a1 a2 a3 a4 a5 a6 uniq wh limit)),(1,Wk 0),(0,qH false (.sl 4 g' 4 0 (Y++[aZ cn]++[aZ [98,111,111,108]]).length none))]⟩) ?_ fun g'=> ?_
   ·iterate 70 all_goals ((try conv=>whnf);try first|(with_reducible first|refine zY ?_|refine zN ?_|refine zT ?_|refine br (fun _=> ?_) (fun _=> ?_)|refine⟨rfl,?_⟩|refine dh.full ?_)|(refine oe [_] (by show 1<=1000;decide) rfl rfl rfl rfl (by first|exact BD|simp) rfl rfl rfl (by first|omega|(simp;omega)) fun g'=> ?_)|(refine And.intro ?_ ?_)|(exact trivial)|(exact⟨_,rfl,⟨rfl,rfl,rfl,rfl,rfl,rfl,rfl,rfl,rfl,rfl,rfl,rfl,rfl,rfl,trivial⟩,rfl,qG ⟨rfl,rfl,rfl,rfl,rfl,trivial⟩⟩)|with_reducible refine cz 5 ?_)
   ·cases cb
    all_goals
     iterate 60 all_goals ((try conv=>whnf);try first|(with_reducible first|refine zY ?_|refine zN ?_|refine zT ?_|refine br (fun _=> ?_) (fun _=> ?_)|refine⟨rfl,?_⟩)|(refine oe [_] (by show 1<=1000;decide) rfl rfl rfl rfl (by first|exact BD|simp) rfl rfl rfl (by first|omega|(simp;omega)) fun g'=> ?_)|(refine oe [_,_] (by show 2<=1000;decide) rfl rfl rfl rfl (by first|exact BD|simp) rfl rfl rfl (by first|omega|(simp;omega)) fun g'=> ?_))
     refine⟨fun j=>Nat.beq j 5,_,_,5,Nat.le_refl 5,bh,.refl,?_⟩;iterate 14 all_goals ((try conv=>whnf);try first|(with_reducible first|refine zY ?_|refine zN ?_|refine zT ?_|refine br (fun _=> ?_) (fun _=> ?_)|refine⟨rfl,?_⟩)|(refine au (fN (rfl)) ?_)|(refine au MF ?_))
     refine⟨(⟨i+1,hil⟩,g'),by dsimp only;omega,by rw[e7],?_⟩;dsimp only;rw[hYs];rw[<- ym]
     first|rfl|(rw[show P5 false=[] from rfl,List.append_nil];rfl)
  ·iterate 80 all_goals ((try conv=>whnf);try first|(with_reducible first|refine zY ?_|refine zN ?_|refine zT ?_|refine br (fun _=> ?_) (fun _=> ?_)|refine⟨rfl,?_⟩)|(rewrite [eg])|(refine oe [_] (by show 1<=1000;decide) rfl rfl rfl rfl (by first|exact BD|simp) rfl rfl rfl (by first|omega|(simp;omega)) fun g'=> ?_)|(refine r6 ?_))
   refine dR.out 3 (fun _=>[(0,.ref 0 0 0 0),(0+1,MH 5 name eH aq.length gC key.length gK nN gN a1 a2 a3 a4 a5 a6 uniq wh limit),(2,.ref 1 0 0 0),(3,.ref (1+1) 0 0 0),(9,.int .u8 5),(13,.bool false),(18,.bool false),(42,.bool false),(59,.bool false),(70,.bool true),(78,.aW 3 aq.length gC),(79,.int .i64 aq.length),(80,.int .i64 (i:Nat)),(5,.ref 5 0 0 0)])
    (fun g'=>⟨10,[(5,.vec 0 3 [.agg [.str cn,.int .u8 2,.bool cb]] ⟨false,some 76⟩),(4,vQ g' (Y++[aZ cn]++[aZ [105,110,116]])),(2,OU (MH 5 name eH aq.length gC key.length gK nN gN a1 a2 a3 a4 a5 a6 uniq wh limit)),(1,Wk 0),(0,qH false (.sl 4 g' 4 0 (Y++[aZ cn]++[aZ [105,110,116]]).length none))]⟩) ?_ fun g'=> ?_
   ·iterate 70 all_goals ((try conv=>whnf);try first|(with_reducible first|refine zY ?_|refine zN ?_|refine zT ?_|refine br (fun _=> ?_) (fun _=> ?_)|refine⟨rfl,?_⟩|refine dh.full ?_)|(refine oe [_] (by show 1<=1000;decide) rfl rfl rfl rfl (by first|exact BD|simp) rfl rfl rfl (by first|omega|(simp;omega)) fun g'=> ?_)|(refine And.intro ?_ ?_)|(exact trivial)|(exact⟨_,rfl,⟨rfl,rfl,rfl,rfl,rfl,rfl,rfl,rfl,rfl,rfl,rfl,rfl,rfl,rfl,trivial⟩,rfl,qG ⟨rfl,rfl,rfl,rfl,rfl,trivial⟩⟩)|with_reducible refine cz 5 ?_)
   ·cases cb
    all_goals
     iterate 60 all_goals ((try conv=>whnf);try first|(with_reducible first|refine zY ?_|refine zN ?_|refine zT ?_|refine br (fun _=> ?_) (fun _=> ?_)|refine⟨rfl,?_⟩)|(refine oe [_] (by show 1<=1000;decide) rfl rfl rfl rfl (by first|exact BD|simp) rfl rfl rfl (by first|omega|(simp;omega)) fun g'=> ?_)|(refine oe [_,_] (by show 2<=1000;decide) rfl rfl rfl rfl (by first|exact BD|simp) rfl rfl rfl (by first|omega|(simp;omega)) fun g'=> ?_))
     refine⟨fun j=>Nat.beq j 5,_,_,5,Nat.le_refl 5,bh,.refl,?_⟩;iterate 14 all_goals ((try conv=>whnf);try first|(with_reducible first|refine zY ?_|refine zN ?_|refine zT ?_|refine br (fun _=> ?_) (fun _=> ?_)|refine⟨rfl,?_⟩)|(refine au (fN (rfl)) ?_)|(refine au MF ?_))
     refine⟨(⟨i+1,hil⟩,g'),by dsimp only;omega,by rw[e7],?_⟩;dsimp only;rw[hYs];rw[<- ym]
     first|rfl|(rw[show P5 false=[] from rfl,List.append_nil];rfl)
  ·iterate 80 all_goals ((try conv=>whnf);try first|(with_reducible first|refine zY ?_|refine zN ?_|refine zT ?_|refine br (fun _=> ?_) (fun _=> ?_)|refine⟨rfl,?_⟩)|(rewrite [eg])|(refine oe [_] (by show 1<=1000;decide) rfl rfl rfl rfl (by first|exact BD|simp) rfl rfl rfl (by first|omega|(simp;omega)) fun g'=> ?_)|(refine r6 ?_))
   refine dR.out 3 (fun _=>[(0,.ref 0 0 0 0),(0+1,MH 5 name eH aq.length gC key.length gK nN gN a1 a2 a3 a4 a5 a6 uniq wh limit),(2,.ref 1 0 0 0),(3,.ref (1+1) 0 0 0),(9,.int .u8 5),(13,.bool false),(18,.bool false),(42,.bool false),(59,.bool false),(70,.bool true),(78,.aW 3 aq.length gC),(79,.int .i64 aq.length),(80,.int .i64 (i:Nat)),(5,.ref 5 0 0 0)])
    (fun g'=>⟨10,[(5,.vec 0 3 [.agg [.str cn,.int .u8 3,.bool cb]] ⟨false,some 76⟩),(4,vQ g' (Y++[aZ cn]++[aZ [116,101,120,116]])),(2,OU (MH 5 name eH aq.length gC key.length gK nN gN a1 a2 a3 a4 a5 a6 uniq wh limit)),(1,Wk 0),(0,qH false (.sl 4 g' 4 0 (Y++[aZ cn]++[aZ [116,101,120,116]]).length none))]⟩) ?_ fun g'=> ?_
   ·iterate 70 all_goals ((try conv=>whnf);try first|(with_reducible first|refine zY ?_|refine zN ?_|refine zT ?_|refine br (fun _=> ?_) (fun _=> ?_)|refine⟨rfl,?_⟩|refine dh.full ?_)|(refine oe [_] (by show 1<=1000;decide) rfl rfl rfl rfl (by first|exact BD|simp) rfl rfl rfl (by first|omega|(simp;omega)) fun g'=> ?_)|(refine And.intro ?_ ?_)|(exact trivial)|(exact⟨_,rfl,⟨rfl,rfl,rfl,rfl,rfl,rfl,rfl,rfl,rfl,rfl,rfl,rfl,rfl,rfl,trivial⟩,rfl,qG ⟨rfl,rfl,rfl,rfl,rfl,trivial⟩⟩)|with_reducible refine cz 5 ?_)
   ·cases cb
    all_goals
     iterate 60 all_goals ((try conv=>whnf);try first|(with_reducible first|refine zY ?_|refine zN ?_|refine zT ?_|refine br (fun _=> ?_) (fun _=> ?_)|refine⟨rfl,?_⟩)|(refine oe [_] (by show 1<=1000;decide) rfl rfl rfl rfl (by first|exact BD|simp) rfl rfl rfl (by first|omega|(simp;omega)) fun g'=> ?_)|(refine oe [_,_] (by show 2<=1000;decide) rfl rfl rfl rfl (by first|exact BD|simp) rfl rfl rfl (by first|omega|(simp;omega)) fun g'=> ?_))
     refine⟨fun j=>Nat.beq j 5,_,_,5,Nat.le_refl 5,bh,.refl,?_⟩;iterate 14 all_goals ((try conv=>whnf);try first|(with_reducible first|refine zY ?_|refine zN ?_|refine zT ?_|refine br (fun _=> ?_) (fun _=> ?_)|refine⟨rfl,?_⟩)|(refine au (fN (rfl)) ?_)|(refine au MF ?_))
     refine⟨(⟨i+1,hil⟩,g'),by dsimp only;omega,by rw[e7],?_⟩;dsimp only;rw[hYs];rw[<- ym]
     first|rfl|(rw[show P5 false=[] from rfl,List.append_nil];rfl)
 ·have hd:decide ((i:Int)<(aq.length:Int))=false:=decide_eq_false (by omega)
  obtain rfl:i=aq.length:=by omega
  rw[List.take_length]at*;generalize hY:uw name++aq.flatMap kR=Y at*
  have hNl:(fR key).length<=2002:=by
   have:=vR (ns:=key);simp only[fR,List.length_cons,List.length_append,List.length_nil];omega
  iterate 80 all_goals ((try conv=>whnf);try first|(with_reducible first|refine zY ?_|refine zN ?_|refine zT ?_|refine br (fun _=> ?_) (fun _=> ?_)|refine⟨rfl,?_⟩)|(refine oe [_,_] (by show 2<=1000;decide) rfl rfl rfl rfl (by first|exact BD|simp) rfl rfl rfl (by first|omega|(simp;omega)) fun g'=> ?_)|(refine oe [_] (by show 1<=1000;decide) rfl rfl rfl rfl (by first|exact BD|simp) rfl rfl rfl (by first|omega|(simp;omega)) fun g'=> ?_)|(refine(yj (ns:=key) rfl YM M5 (by simp) (by simp;omega)).L rfl rfl rfl (by simp) rfl fun g'=> ?_))
  refine WN.of (j:=4) ?_ ?_ (by decide) ?_ rfl rfl
  ·rw[<- hY];unfold pz;rw[if_pos rfl];simp[uw]
  ·simp
  ·rfl
theorem FV(Xc:nN=key.length)(hgN: ∀i (hi:i<key.length),gN i= .str key[i])(M5:key.length<=1000):
  WC 69 [MH 6 name eH nC gC nK gK nN gN a1 a2 a3 a4 a5 a6 uniq wh limit] false false [] (pz {kind:=6,name:=name,eH:=eH,uniq:=uniq,names:=key}):=by
 refine WC.of (di Hv) (fun _=> ?_) fun h=>absurd rfl h
 refine PG.call mixed rfl ?_;subst Xc;cases uniq
 all_goals
  iterate 90 all_goals ((try conv=>whnf);try first|(with_reducible first|refine zY ?_|refine zN ?_|refine zT ?_|refine br (fun _=> ?_) (fun _=> ?_)|refine⟨rfl,?_⟩)|(refine Wj [_] (by show 1<=1000;decide) rfl rfl rfl (by simp) fun g'=> ?_)|(refine oe [_] (by show 1<=1000;decide) rfl rfl rfl rfl (by simp) rfl rfl rfl (by first|(simp;done)|(simp;omega)) fun g'=> ?_)|(refine oe [_,_,_,_] (by show 4<=1000;decide) rfl rfl rfl rfl (by simp) rfl rfl rfl (by first|(simp;done)|(simp;omega)) fun g'=> ?_)|(refine(yj (ns:=key) rfl hgN M5 (by simp) (by first|(simp;done)|(simp;omega))).L rfl rfl rfl (by simp) rfl fun g'=> ?_))
  exact WN.of (j:=4) (by unfold pz;rw[if_neg (by show ¬(6:Int)=5;decide)];simp) (by simp) (by decide) rfl rfl rfl
end
end
section
@[reducible] def Wl (g:Nat->SV):SV:= .agg [.int .u8 0,.int .u8 0,.int .i64 0,.str [],.str [],.str [],.int .i64 0,.int .u8 0,.aW 9 0 g]
theorem FW{g:Nat->SV}:aj Tryz.prog 128 [Wl g,Wl g] (.bool true):=by
 refine aG (cP (.agg (dP rfl)) (.agg (dP rfl))) (Rj.call mixed rfl ?_);iterate 60 all_goals ((try conv=>whnf);try first|(with_reducible first|refine zY ?_|refine zN ?_|refine zT ?_|refine br (fun _=> ?_) (fun _=> ?_)|refine⟨rfl,?_⟩)|(refine(Qf).call ?_))
 exact leaf rfl (.bool _)
section
variable {kind:Int} {name eH:List UInt8} {nC nK nN:Nat} {gC gK gN:Nat->SV} {r i f g o t w:Nat->SV} {uniq:Bool} {limit:Int}
@[reducible] def YT (kind:Int) (name eH:List UInt8) (nC:Nat) (gC:Nat->SV) (nK:Nat) (gK:Nat->SV) (nN:Nat) (gN:Nat->SV) (r i f g o t w:Nat->SV) (uniq:Bool) (limit:Int):SV:= .agg [.int .u8 kind,.str name,.str eH,.aW 3 nC gC,.aW 1 nK gK,.bool uniq,.aW 1 nN gN,.aW 1 0 r,.aW 11 0 i,.aW 11 0 f,.int .u8 0,.int .u8 0,.int .i64 0,.str [],.str [],.str [],.int .i64 0,.int .u8 0,.aW 9 0 w,.aW 9 0 g,.aW 10 0 o,.int .i64 limit,.aW 11 0 t]
theorem Hw:aL (YT kind name eH nC gC nK gK nN gN r i f g o t w uniq limit):= .agg (dP rfl)
theorem Ac(h1:nC<=100000)(h2: ∀i,i<nC-> ∃(a:List UInt8) (k:Int) (b:Bool),gC i= .agg [.str a,.int .u8 k,.bool b])(h3:nK<=100000)(h4: ∀i,i<nK-> ∃a:List UInt8,gK i= .str a)(h5:nN<=100000)(h6: ∀i,i<nN-> ∃a:List UInt8,gN i= .str a):
  aj Tryz.prog 72 [YT kind name eH nC gC nK gK nN gN r i f g o t w uniq limit,YT kind name eH nC gC nK gK nN gN r i f g o t w uniq limit] (.bool true):=by
 have c1:=Hp h1 h2;have c2:=Hr h3 h4;have c3:=Hr h5 h6;have q1:(kind==kind)=true:=beq_self_eq_true _;have q2:(name==name)=true:=beq_self_eq_true _;have q3:(eH==eH)=true:=beq_self_eq_true _;have q4:(uniq==uniq)=true:=beq_self_eq_true _;have q5:(limit==limit)=true:=beq_self_eq_true _;refine aG (cP Hw Hw) (U4.call mixed rfl ?_);iterate 200 all_goals ((try conv=>whnf);try first|(with_reducible first|refine zY ?_|refine zN ?_|refine zT ?_|refine br (fun _=> ?_) (fun _=> ?_)|refine⟨rfl,?_⟩)|(refine c1.call ?_)|(refine c2.call ?_)|(refine c3.call ?_)|(refine OT.call ?_)|(refine MC.call ?_)|(refine Te.call ?_)|(refine MD.call ?_)|(refine OS.call ?_)|(refine Qf.call ?_)|(refine FW.call ?_))
 exact leaf rfl (.bool _)
end
end
end Go.Proofs.YtegmnocpkgpgeaaGreatDoor
