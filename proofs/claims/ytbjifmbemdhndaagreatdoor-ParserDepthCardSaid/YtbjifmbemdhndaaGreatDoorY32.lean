/- Parts of the proof of PParserDepth, one behind the other, with short names. -/
import Derived.Test.YtbjifmbemdhndaaGreatDoorY29
import Derived.Test.YtbjifmbemdhndaaGreatDoorY31
set_option linter.unusedVariables false
set_option linter.unusedSimpArgs false
namespace Go.Proofs.YtbjifmbemdhndaaGreatDoor
open Ab Go.RowKit
set_option maxRecDepth 100000
theorem vE(s:List UInt8)(b:UInt8):au Tryz.prog 73 [.str s,.int .u8 b.toNat] (.int .i64 (Lib.indexByte s b)):=by
 refine bu (kJ (.str _) (.int _ _)) (Hg.call mixed rfl ?_);iterate 3 all_goals ((try conv=>whnf);try first|(with_reducible first|refine zY ?_|refine zN ?_|refine zT ?_|refine br (fun _=> ?_) (fun _=> ?_)|refine⟨rfl,?_⟩))
 refine leaf ?_ (.int _ _);have e:(Int.toNat (b.toNat:Int)).toUInt8=b:=by rw[Int.toNat_natCast];simp
 show SV.int .i64 (Lib.indexByte s (Int.toNat (b.toNat:Int)).toUInt8)=_;rw[e]
theorem Fx(s:List UInt8)(b:UInt8):au Tryz.prog 210 [.str s,.str [b]] (.int .i64 (Lib.indexByte s b)):=by
 have h1:au Tryz.prog 232 [.str s,.str [b]] (.int .i64 (Lib.indexByte s b)):=by
  refine bu (kJ (.str _) (.str _)) (M4.call mixed rfl ?_);iterate 12 all_goals ((try conv=>whnf);try first|(with_reducible first|refine zY ?_|refine zN ?_|refine zT ?_|refine br (fun _=> ?_) (fun _=> ?_)|refine⟨rfl,?_⟩|refine au.call (vE _ _) ?_))
  ·rename_i h
   have h:=beq_iff_eq.1 h;subst h;exact leaf (by simp[Lib.indexByte]) (.int _ _)
  ·exact leaf rfl (.int _ _)
 refine bu (kJ (.str _) (.str _)) (M3.call mixed rfl ?_);iterate 3 all_goals ((try conv=>whnf);try first|(with_reducible first|refine zY ?_|refine zN ?_|refine zT ?_|refine br (fun _=> ?_) (fun _=> ?_)|refine⟨rfl,?_⟩|refine au.call (h1) ?_))
 exact leaf rfl (.int _ _)
theorem HF{n:Int}{R:bV->Heap->Prop}(h0:0<n)(hn:n<=140737488355328)(hk:R (.ret (.aN [])) ⟨2,[(1,mL 5 0 []),(0,lY 84 0 1 0 0)]⟩):
  aP Tryz.prog 31 [.ref 0 0 0 0,.int .i64 n] ⟨1,[(0,.vec 0 2 [.agg [.ez,.ak]] ⟨false,some 84⟩)]⟩ R:=by
 refine KD.call mixed rfl ?_;have q1:decide (n<0)=false:=decide_eq_false (by omega);have e0:IntKind.i64.wrap (0-0)=0:=by decide
 have q2:decide (IntKind.i64.wrap (0-0)<n)=true:=by rw[e0];exact decide_eq_true h0
 have e1:IntKind.i64.wrap (IntKind.i64.wrap (2*0)+n)=n:=by
  rw[show IntKind.i64.wrap (2*0)=0 by decide,Int.zero_add,uB (by omega) (by omega)]
 have q3:(decide (0<=IntKind.i64.wrap (IntKind.i64.wrap (2*0)+n))&&decide (IntKind.i64.wrap (IntKind.i64.wrap (2*0)+n)<=140737488355328))=true:=by
  rw[e1,decide_eq_true (show 0<=n by omega),decide_eq_true hn];rfl
 iterate 30 all_goals ((try conv=>whnf);try first|(with_reducible first|refine zY ?_|refine zN ?_|refine zT ?_|refine br (fun _=> ?_) (fun _=> ?_)|refine⟨rfl,?_⟩)|(refine uD.call mixed rfl ?_)|(refine KR.call mixed rfl ?_))
 exact hk
theorem wS(s:List UInt8)(b:UInt8):au Tryz.prog 209 [.str s,.str [b]] (.int .i64 (s.count b)):=by
 refine bu (kJ (.str _) (.str _)) (M1.call mixed rfl ?_);iterate 8 all_goals ((try conv=>whnf);try first|(with_reducible first|refine zY ?_|refine zN ?_|refine zT ?_|refine br (fun _=> ?_) (fun _=> ?_)|refine⟨rfl,?_⟩))
 refine leaf ?_ (.int _ _);have e:(Int.toNat (([b].getD (Int.toNat 0) 0).toNat:Int)).toUInt8=b:=by rw[Int.toNat_natCast];simp
 show SV.int .i64 ((Lib.countByte s (Int.toNat (([b].getD (Int.toNat 0) 0).toNat:Int)).toUInt8:Nat):Int)=_;rw[e];rfl
theorem SX{g n:Nat}{o:List UInt8}:Me [(1,mL 5 g o),(0,lY 84 0 1 g n)] 2:=by
 intro i ob h;unfold aG at h;split at h
 ·cases h;rename_i h;subst h;exact⟨by omega,qG⟩
 ·unfold aG at h
  split at h
  ·cases h;rename_i h;subst h;exact⟨by omega,fun v hv=>by simp only[List.mem_singleton]at hv;subst hv;rfl⟩
  ·cases h
theorem SY{g:Nat}{o s:List UInt8}{R:bV->Heap->Prop}(hlen:o.length+s.length<=140737488355328)
  (hk: ∀g',R (.ret (.aN [.int .i64 s.length,.de])) ⟨2,[(1,mL 5 g' (o++s)),(0,lY 84 0 1 g' (o++s).length)]⟩):
  aP Tryz.prog 32 [.ref 0 0 0 0,.str s] ⟨2,[(1,mL 5 g o),(0,lY 84 0 1 g o.length)]⟩ R:=
 uG (bi:=0) (j:=1) rfl rfl (by omega) (by omega) (by omega) SX hlen hk
structure Wb(b:UInt8)(nw s:List UInt8) where
 k:Nat
 p:List UInt8
 r:List UInt8
 g:Nat
 hs:s=p++r
 hk:k+r.count b=s.count b
theorem AA{b:UInt8}{nw s:List UInt8}(hne:nw≠[b])(h1:1<=nw.length)(h4:nw.length<=4)(hs:s.length<=1099511627776):
  au Tryz.prog 171 [.str s,.str [b],.str nw,.int .i64 (-1)] (.str (jk b nw s)):=by
 refine bu (Py (.str _) (.str _) (.str _) (.int _ _)) (MY.call mixed rfl ?_);have q1:([b]==nw)=false:=beq_eq_false_iff_ne.2 fun h=>hne h.symm
 by_cases hc:s.count b=0
 ·have q2:(((s.count b:Nat):Int)==0)=true:=by rw[beq_iff_eq];omega
  iterate 12 all_goals ((try conv=>whnf);try first|(with_reducible first|refine zY ?_|refine zN ?_|refine zT ?_|refine br (fun _=> ?_) (fun _=> ?_)|refine⟨rfl,?_⟩|refine au.call (wS _ _) ?_))
  exact leaf (by rw[oA b nw s hc]) (.str _)
 have q2:(((s.count b:Nat):Int)==0)=false:=by rw[beq_eq_false_iff_ne];omega
 have eI:s.count b<=s.length:=List.count_le_length;have hm:s.count b*(nw.length-1)<=s.length*3:=Nat.mul_le_mul eI (by omega)
 have em:((s.count b:Nat):Int)*((nw.length:Int)-1)=((s.count b*(nw.length-1):Nat):Int):=by
  rw[Int.natCast_mul,show((nw.length-1:Nat):Int)=(nw.length:Int)-1 by omega]
 have en:IntKind.i64.wrap ((s.length:Int)+IntKind.i64.wrap (((s.count b:Nat):Int)*IntKind.i64.wrap ((nw.length:Int)-1)))=((s.length+s.count b*(nw.length-1):Nat):Int):=by
  rw[uB (x:=(nw.length:Int)-1) (by omega) (by omega),em,uB (x:=((s.count b*(nw.length-1):Nat):Int)) (by omega) (by omega),uB (by omega) (by omega)];omega
 have hpos:0<s.length:=by omega
 have gr: ∀ {R:bV->Heap->Prop},R (.ret (.aN [])) ⟨2,[(1,mL 5 0 []),(0,lY 84 0 1 0 0)]⟩->aP Tryz.prog 31 [.ref 0 0 0 0,.int .i64 (IntKind.i64.wrap ((s.length:Int)+IntKind.i64.wrap (((s.count b:Nat):Int)*IntKind.i64.wrap ((nw.length:Int)-1))))] ⟨1,[(0,.vec 0 2 [.agg [.ez,.ak]] ⟨false,some 84⟩)]⟩ R:=fun h=>by
  rw[en];exact HF (by omega) (by omega) h
 iterate 20 all_goals ((try conv=>whnf);try first|(with_reducible first|refine zY ?_|refine zN ?_|refine zT ?_|refine br (fun _=> ?_) (fun _=> ?_)|refine⟨rfl,?_⟩|refine au.call (wS _ _) ?_)|(refine gr ?_))
 refine iP (σ:=Wb b nw s) (fun q=>[(0,SV.str s),(1,SV.str [b]),(2,SV.str nw),(3,SV.int IntKind.i64 ((s.count b:Nat):Int)),(8,SV.str []),(22,SV.bool false),(9,SV.int IntKind.i64 ((s.count b:Nat):Int)),(28,SV.bool false),(36,SV.bool true),(10,SV.ref 0 0 0 0),(11,SV.int IntKind.i64 q.p.length),(51,SV.bool true),(52,SV.int IntKind.i64 ((s.count b:Nat):Int)),(53,SV.int IntKind.i64 q.k)])
  (fun q=>⟨2,[(1,mL 5 q.g (jk b nw q.p)),(0,lY 84 0 1 q.g (jk b nw q.p).length)]⟩) (fun q=>s.count b-q.k) ?_ ⟨0,[],s,0,rfl,by omega⟩
 rintro⟨k,p,r,g,E7,hk⟩;dsimp only;have IA:p.length+r.length=s.length:=by rw[E7,List.length_append]
 have X9:=Az b (nw:=nw) (k:=4) h4 (by omega) p;by_cases hlt:k<s.count b
 ·have hd:decide ((k:Int)<((s.count b:Nat):Int))=true:=decide_eq_true (by omega)
  obtain⟨q,r',e1,e2,e3⟩:=nX b r (by omega);have Ut:q.length+(r'.length+1)=r.length:=by rw[e1];simp
  have es:(s.drop (p.length:Int).toNat).take ((s.length:Int).toNat-(p.length:Int).toNat)=r:=by
   rw[Int.toNat_natCast,Int.toNat_natCast,List.take_of_length_le (by simp),E7,List.drop_left]
  have ci:au Tryz.prog 210 [.str ((s.drop (p.length:Int).toNat).take ((s.length:Int).toNat-(p.length:Int).toNat)),.str [b]] (.int .i64 q.length):=by
   rw[es,<-e3];exact Fx _ _
  have ej:IntKind.i64.wrap ((p.length:Int)+(q.length:Int))=((p.length+q.length:Nat):Int):=by rw[uB (by omega) (by omega)];omega
  have e5:IntKind.i64.wrap (IntKind.i64.wrap ((p.length:Int)+(q.length:Int))+(([b].length:Nat):Int))=((p.length+(q.length+1):Nat):Int):=by rw[List.length_singleton,ej,uB (by omega) (by omega)];omega
  have e8:jk b nw (p++(q++[b]))=jk b nw p++q++nw:=by
   rw[nW,nW,oA b nw q e2,List.append_assoc];simp[jk]
  have eq:(s.drop (p.length:Int).toNat).take ((IntKind.i64.wrap ((p.length:Int)+(q.length:Int))).toNat-(p.length:Int).toNat)=q:=by
   rw[ej,Int.toNat_natCast,Int.toNat_natCast,Nat.add_sub_cancel_left,E7,List.drop_left,e1,List.take_left]
  have e7:IntKind.i64.wrap ((k:Int)+1)=((k+1:Nat):Int):=bL (by omega);iterate 30 all_goals ((try conv=>whnf);try first|(with_reducible first|refine zY ?_|refine zN ?_|refine zT ?_|refine br (fun _=> ?_) (fun _=> ?_)|refine⟨rfl,?_⟩|refine au.call (ci) ?_)|(rw[eq];refine SY (by omega) (fun g1=> ?_))|(refine SY (by rw[List.length_append];omega) (fun g2=> ?_)))
  refine⟨⟨k+1,p++(q++[b]),r',g2,by rw[E7,e1];simp,by rw[e1,List.count_append,List.count_cons_self,e2]at hk;omega⟩,by dsimp only;omega,?_,?_⟩
  ·rw[e7,e5];simp only[List.length_append,List.length_singleton]
  ·dsimp only;rw[e8]
 ·have hd:decide ((k:Int)<((s.count b:Nat):Int))=false:=decide_eq_false (by omega)
  have Bf:r.count b=0:=by have:r.count b<=s.count b:=by rw[E7,List.count_append];omega
                          omega
  have es:(s.drop (p.length:Int).toNat).take ((s.length:Int).toNat-(p.length:Int).toNat)=r:=by
   rw[Int.toNat_natCast,Int.toNat_natCast,List.take_of_length_le (by simp),E7,List.drop_left]
  have e8:jk b nw s=jk b nw p++r:=by rw[E7,nW,oA b nw r Bf]
  have Wc:0<(jk b nw p++r).length:=by
   rw[<- e8];obtain⟨q,r',e1,e2,e3⟩:=nX b s (by omega);rw[e1,nW,jk,if_pos rfl];simp only[List.length_append];omega
  iterate 30 all_goals ((try conv=>whnf);try first|(with_reducible first|refine zY ?_|refine zN ?_|refine zT ?_|refine br (fun _=> ?_) (fun _=> ?_)|refine⟨rfl,?_⟩)|(rw[es];refine SY (by omega) (fun g1=> ?_))|(refine Na (g:=g1) (o:=jk b nw p++r) rfl rfl Wc (by rw[List.length_append];omega) (fun l'=> ?_)))
  exact leaf (by rw[e8]) (.str _)
theorem uL{b:UInt8}{nw s:List UInt8}(hne:nw≠[b])(h1:1<=nw.length)(h4:nw.length<=4)(hs:s.length<=1099511627776):
  au Tryz.prog 124 [.str s,.str [b],.str nw] (.str (jk b nw s)):=by
 refine bu (D0 (.str _) (.str _) (.str _)) (MG.call mixed rfl ?_);iterate 4 all_goals ((try conv=>whnf);try first|(with_reducible first|refine zY ?_|refine zN ?_|refine zT ?_|refine br (fun _=> ?_) (fun _=> ?_)|refine⟨rfl,?_⟩|refine au.call (AA hne h1 h4 hs) ?_))
 exact leaf rfl (.str _)
end Go.Proofs.YtbjifmbemdhndaaGreatDoor
namespace Go.Proofs.YtbjifmbemdhndaaGreatDoor
open Ab Go.RowKit
set_option maxRecDepth 100000
set_option maxHeartbeats 4000000
theorem AB{B:Nat}{a w:World}(h:Below B a w)(q:Nat):Below B a (w.drewN q):=⟨h.os,h.tape,h.output,h.size,h.block⟩
theorem uM{n:Nat}(h:n<18446744073709551616):au Tryz.prog 123 [.int .u64 n,.int .i64 10] (.str (Lib.decDigits n)):=by
 have key:au Tryz.prog 170 [.int .u64 n,.int .i64 10] (.str (Lib.decDigits n)):=by
  refine fO (kJ (.int _ _) (.int _ _)) (.str _) fun Im w xs hg sC hs hv=> ?_
  obtain rfl:=args2 hs hv (fun _ h=>h.kg) (fun _ h=>h.kg);have htab:Lib.TabIs Tryz.prog w "internal/strconv.uint64pow10" .u64 Lib.pow10Tab:=hg.var (g:=6) (by decide) (by kernel_rfl);refine(vD n h w htab).mono fun e w' h=> ?_
  obtain⟨rfl,k,os,rfl⟩:=h;have hb:=AB (Below.refl w.heap.size w) k;exact⟨⟨_,rfl,.str _⟩,Cc os hb hb.size⟩
 refine bu (kJ (.int _ _) (.int _ _)) (Hi.call mixed rfl ?_);iterate 6 all_goals ((try conv=>whnf);try first|(with_reducible first|refine zY ?_|refine zN ?_|refine zT ?_|refine br (fun _=> ?_) (fun _=> ?_)|refine⟨rfl,?_⟩|refine au.call (key) ?_))
 exact leaf rfl (.str _)
theorem mY{s:List UInt8}(hs:s.length<=9223372036854775807):au Tryz.prog 122 [.str s] (.bool (Lib.validD s)):=by
 refine fO (bK (.str _)) (.bool _) fun Im w xs hg sC hz hv=> ?_
 obtain rfl:=args1 hz hv (fun _ h=>h.kf);refine(Any.utf8_ValidString Tryz.I6 ⟨s.toArray⟩ w (by simpa[ByteArray.size]using hs) (wO hg)).mono fun e w' h=> ?_
 obtain⟨rfl,hb⟩:=h;exact⟨⟨_,rfl,.bool _⟩,hb⟩
theorem AE: ∀t:List UInt8,jk 39 [39,39] t=quot t
 | []=>rfl
 |c::r=>by
  rw[jk,quot,AE r];split<;>rfl
@[reducible] def nj (l:List (List UInt8)):SV:= .eR 1 l.length fun i=> .str (l.getD i [])
theorem HG{l:List (List UInt8)}{sep:List UInt8}(hn:l.length<=100000)(hl:(Lib.join l sep).length<=140737488355328):au Tryz.prog 72 [nj l,.str sep] (.str (Lib.join l sep)):=by
 refine fO (kJ (.eR _ _ _) (.str _)) (.str _) fun Im w xs hg sC hz hv=> ?_
 obtain⟨x0,h0⟩: ∃x0,xs[0]? =some x0:=⟨xs[0]'(by rw[hz];show 0<2;decide),by simp⟩;obtain⟨x1,h1⟩: ∃x1,xs[1]? =some x1:=⟨xs[1]'(by rw[hz];show 1<2;decide),by simp⟩
 have hx:xs= #[x0,x1]:=by
  apply Array.ext'
  apply List.ext_getElem?
  intro i;rcases i with _|_|i
  ·simpa using h0
  ·simpa using h1
  ·simp[hz]
 have v0:=hv 0 _ x0 rfl h0;have v1:=(hv 1 _ x1 rfl h1).kf;subst hx v1
 have em:(l.map fun s=>(⟨s.toArray⟩:ByteArray)).map (·.data.toList)=l:=by
  rw[List.map_map]
  conv=>rhs;rw[<- List.map_id l]
  rfl
 have fin: ∀(a:Option Addr) (c:Nat),x0= .slice a 0 c->l=[]->Calls Tryz.prog 72 #[x0,.string ⟨sep.toArray⟩] w fun e w'=>(∃ x,e= .returned x/\VP Im w' (.str (Lib.join l sep)) x)/\Below w.heap.size w w':=by
  rintro a c rfl rfl;refine(Any.strings_Join_none Tryz.Ea Tryz.mX a c _ w).mono fun e w' h=> ?_
  obtain⟨rfl,rfl⟩:=h;exact⟨⟨_,rfl,.str _⟩,Below.refl _ _⟩
 generalize hq:nj l=q at v0;cases v0<;>first|(cases hq;done)|skip
 ·rename_i sz get a c
  refine fin a c rfl (List.eq_nil_of_length_eq_zero ?_);injection hq
 ·rename_i sz n get b off cap C ty fz hb hw hn hcap hc h
  have e1:n=l.length:=by injection hq with _ h2 _;exact h2.symm
  have e2:get=fun i=>SV.str (l.getD i []):=by injection hq with _ _ h3;exact h3.symm
  have e3:sz=1:=by injection hq with h1 _ _;exact h1.symm
  subst e1 e2 e3
  have hcells: ∀(j:Nat) x,(l.map fun s=>(⟨s.toArray⟩:ByteArray))[j]? =some x->w.cell? ⟨b,off+j,none⟩=some (.string x):=by
   intro j x hx;rw[List.getElem?_map]at hx;obtain⟨t,ht,rfl⟩:=Option.map_eq_some_iff.1 hx;have hj:j<l.length:=(List.getElem?_eq_some_iff.1 ht).1;obtain⟨y,hy⟩: ∃y,C[off+j]? =some y:=⟨C[off+j]'(by omega),by simp⟩;have:=h j 0 (.str t) y hj (by show[SV.str (l.getD j [])][0]? =_;simp[List.getD,ht]) (by rw[Nat.mul_one,Nat.add_zero];exact hy);rw[this.kf]at hy;unfold World.cell?;rw[hw];exact hy
  have hJ:=Any.strings_Join Tryz.Ea Tryz.mX b off cap (l.map fun s=>(⟨s.toArray⟩:ByteArray)) ⟨sep.toArray⟩ w hcells (sC b hb) (by rw[List.length_map];omega) (by rw[List.length_map];exact hcap) (by rw[em];exact hl);rw[em,List.length_map]at hJ;refine hJ.mono fun e w' h=> ?_
  obtain⟨rfl,hb⟩:=h;exact⟨⟨_,rfl,.str _⟩,hb⟩
theorem AF{x:TI}(h3:x.1.k=3->x.1.t.length<=1000)(hn:x.1.n<18446744073709551616):au Tryz.prog 71 [Jo x] (.str (cu x.1)):=by
 obtain⟨⟨k,t,n⟩,a⟩:=x;dsimp only at h3 hn;refine bu (bK (.agg (by simp only[List.mem_cons,List.not_mem_nil,or_false];rintro _ (rfl|rfl|rfl|rfl)<;>constructor))) (KJ.call mixed rfl ?_);by_cases k2:k=2
 ·subst k2
  have cf:=uM hn;iterate 20 all_goals ((try conv=>whnf);try first|(with_reducible first|refine zY ?_|refine zN ?_|refine zT ?_|refine br (fun _=> ?_) (fun _=> ?_)|refine⟨rfl,?_⟩|refine au.call (cf) ?_))
  exact leaf rfl (.str _)
 by_cases k3:k=3
 ·subst k3
  have h3:=h3 rfl;have cr:=uL (b:=39) (nw:=[39,39]) (s:=t) (by decide) (by decide) (by decide) (by omega);rw[AE]at cr;have Ut:=uu t;have q1:decide (([39]:List UInt8).length+(quot t).length<=9223372036854775807)=true:=decide_eq_true (by simp only[List.length_singleton];omega);have q2:decide (([39]++quot t:List UInt8).length+([39]:List UInt8).length<=9223372036854775807)=true:=decide_eq_true (by simp only[List.length_append,List.length_singleton];omega);iterate 20 all_goals ((try conv=>whnf);try first|(with_reducible first|refine zY ?_|refine zN ?_|refine zT ?_|refine br (fun _=> ?_) (fun _=> ?_)|refine⟨rfl,?_⟩|refine au.call (cr) ?_))
  exact leaf rfl (.str _)
 ·have q2:(k==2)=false:=by rw[beq_eq_false_iff_ne];exact k2
  have q3:(k==3)=false:=by rw[beq_eq_false_iff_ne];exact k3
  iterate 20 all_goals ((try conv=>whnf);try first|(with_reducible first|refine zY ?_|refine zN ?_|refine zT ?_|refine br (fun _=> ?_) (fun _=> ?_)|refine⟨rfl,?_⟩))
  exact leaf (by unfold cu;rw[if_neg k2,if_neg k3]) (.str _)
theorem HH{s:List UInt8}(hs:65536<s.length):au Tryz.prog 9 [.str s] (.aN [.ak,l7 3 (-1)]):=by
 refine bu (bK (.str _)) (Mg.call mixed rfl ?_);have h0:decide ((65536:Int)<(s.length:Int))=true:=decide_eq_true (by omega);iterate 10 all_goals ((try conv=>whnf);try first|(with_reducible first|refine zY ?_|refine zN ?_|refine zT ?_|refine br (fun _=> ?_) (fun _=> ?_)|refine⟨rfl,?_⟩))
 exact leaf rfl (vA .ak (.agg (by simp only[List.mem_cons,List.not_mem_nil,or_false];rintro _ (rfl|rfl)<;>constructor)))
theorem HJ(x:TI):bA (Jo x):= .agg (by simp only[List.mem_cons,List.not_mem_nil,or_false];rintro _ (rfl|rfl|rfl|rfl)<;>constructor)
theorem QB(y:Tk)(k:Int)(t:List UInt8)(n:Nat):SV.bool ((fun q=>y.k==k&&q) ((fun q=>y.t==t&&q) ((fun q=>(y.n:Int)==(n:Int)&&q) (((0:Nat):Int)==0))))=SV.bool (y.k==k&&y.t==t&&y.n==n):=by
 have:(((0:Nat):Int)==0)=true:=rfl;rw[this];simp only[iA,Bool.and_true,Bool.and_assoc]
theorem QC(y:Tk)(k:Int)(t:List UInt8)(p:Nat):SV.bool ((fun q=>y.k==k&&q) ((fun q=>y.t==t&&q) ((fun q=>(y.n:Int)==((0:Nat):Int)&&q) (((p+1:Nat):Int)==0))))=SV.bool false:=by
 have:(((p+1:Nat):Int)==0)=false:=by rw[beq_eq_false_iff_ne];omega
 rw[this];simp
def iW(x:TI):Bool:=decide (x.2=0)&&dh x.1
theorem HK{x:TI}(hn:x.1.n<18446744073709551616)(ht:x.1.t.length<=9223372036854775807):au Tryz.prog 70 [Jo x] (.bool (iW x)):=by
 have KW:=AF (x:=x);obtain⟨⟨k,t,n⟩,a⟩:=x;dsimp only at hn ht KW;refine bu (bK (HJ _)) (KI.call mixed rfl ?_);by_cases ha:a=0
 case neg=>
  have q1:(a !=0)=true:=by rw[bne_iff_ne];exact ha
  iterate 30 all_goals ((try conv=>whnf);try first|(with_reducible first|refine zY ?_|refine zN ?_|refine zT ?_|refine br (fun _=> ?_) (fun _=> ?_)|refine⟨rfl,?_⟩))
  all_goals exact leaf (by unfold iW;rw[decide_eq_false (show ¬(a=0) from ha)];rfl) (.bool _)
 subst ha;have hI:iW (⟨k,t,n⟩,0)=dh ⟨k,t,n⟩:=by unfold iW;simp
 rw[hI];by_cases c1:(k≠2/\n≠0)\/k=0\/4<k
 ·have hf:dh ⟨k,t,n⟩=false:=by unfold dh;rw[if_pos c1]
  rw[hf];by_cases k2:k=2
  ·subst k2;exfalso;omega
  ·have q2:(k !=2)=true:=by rw[bne_iff_ne];exact k2
   have q4:((n:Int)!=0)= !(decide (n=0)):=by by_cases h:n=0<;>simp[h]
   by_cases n0:n=0
   ·subst n0
    by_cases k0:k=0
    ·subst k0
     iterate 40 all_goals ((try conv=>whnf);try first|(with_reducible first|refine zY ?_|refine zN ?_|refine zT ?_|refine br (fun _=> ?_) (fun _=> ?_)|refine⟨rfl,?_⟩))
     all_goals exact leaf rfl (.bool _)
    ·have q5:(k==0)=false:=by rw[beq_eq_false_iff_ne];exact k0
     have q6:decide (4<k)=true:=decide_eq_true (by omega);iterate 40 all_goals ((try conv=>whnf);try first|(with_reducible first|refine zY ?_|refine zN ?_|refine zT ?_|refine br (fun _=> ?_) (fun _=> ?_)|refine⟨rfl,?_⟩))
     all_goals exact leaf rfl (.bool _)
   ·have q5:((n:Int)!=0)=true:=by rw[bne_iff_ne];omega
    iterate 40 all_goals ((try conv=>whnf);try first|(with_reducible first|refine zY ?_|refine zN ?_|refine zT ?_|refine br (fun _=> ?_) (fun _=> ?_)|refine⟨rfl,?_⟩))
    all_goals exact leaf rfl (.bool _)
 ·have q5:(k==0)=false:=by rw[beq_eq_false_iff_ne];omega
  have q6:decide (4<k)=false:=decide_eq_false (by omega);by_cases k2:k=2
  ·subst k2
   have hf:dh ⟨2,t,n⟩=(t==[]&&decide (n<=9223372036854775808)):=by unfold dh;rw[if_neg c1,if_pos rfl]
   rw[hf];have e9:decide ((n:Int)<=9223372036854775808)=decide (n<=9223372036854775808):=by by_cases h:n<=9223372036854775808<;>simp[h]<;>omega
   by_cases t0:t=[]
   ·subst t0
    iterate 60 all_goals ((try conv=>whnf);try first|(with_reducible first|refine zY ?_|refine zN ?_|refine zT ?_|refine br (fun _=> ?_) (fun _=> ?_)|refine⟨rfl,?_⟩))
    exact leaf (by show SV.bool (decide ((n:Int)<=9223372036854775808))=_;rw[e9];rfl) (.bool _)
   ·have q7:(t==[])=false:=by rw[beq_eq_false_iff_ne];exact t0
    iterate 60 all_goals ((try conv=>whnf);try first|(with_reducible first|refine zY ?_|refine zN ?_|refine zT ?_|refine br (fun _=> ?_) (fun _=> ?_)|refine⟨rfl,?_⟩))
    exact leaf (by rw[q7];rfl) (.bool _)
  ·have q2:(k !=2)=true:=by rw[bne_iff_ne];exact k2
   have q3:(k==2)=false:=by rw[beq_eq_false_iff_ne];exact k2
   obtain rfl:n=0:=by omega
   have go: ∀(Ya:Bool),True:=fun _=>trivial
   by_cases c3:k=3/\(64<t.length\/Lib.validD t=false)
   ·have hf:dh ⟨k,t,0⟩=false:=by unfold dh;rw[if_neg c1,if_neg k2,if_pos c3]
    rw[hf];obtain⟨rfl,c3⟩:=c3;by_cases Wd:64<t.length
    ·have q7:decide ((64:Int)<(t.length:Int))=true:=decide_eq_true (by omega)
     iterate 60 all_goals ((try conv=>whnf);try first|(with_reducible first|refine zY ?_|refine zN ?_|refine zT ?_|refine br (fun _=> ?_) (fun _=> ?_)|refine⟨rfl,?_⟩))
     exact leaf rfl (.bool _)
    ·have q7:decide ((64:Int)<(t.length:Int))=false:=decide_eq_false (by omega)
     have cv:=mY ht;have hv:=c3.resolve_left Wd;rw[hv]at cv;iterate 60 all_goals ((try conv=>whnf);try first|(with_reducible first|refine zY ?_|refine zN ?_|refine zT ?_|refine br (fun _=> ?_) (fun _=> ?_)|refine⟨rfl,?_⟩|refine au.call (cv) ?_))
     exact leaf rfl (.bool _)
   ·have cs:=KW (fun h=>by have: ¬64<t.length:=fun h'=>c3 ⟨h,.inl h'⟩;omega) hn
    have hf:dh ⟨k,t,0⟩=(if 65536<(cu ⟨k,t,0⟩).length then false else match mI (cu ⟨k,t,0⟩)with
     | .ok [(y,0)]=>y.k==k&&y.t==t&&y.n==0
     |_=>false):=by unfold dh;rw[if_neg c1,if_neg k2,if_neg c3];rfl
    rw[hf];generalize cu ⟨k,t,0⟩=w at cs ⊢;have cv:=mY ht;have cond:(k=3->decide ((64:Int)<(t.length:Int))=false/\Lib.validD t=true):=fun h=>⟨decide_eq_false (by have: ¬64<t.length:=fun h'=>c3 ⟨h,.inl h'⟩;omega),by cases hv:Lib.validD t with|true=>rfl|false=>exact absurd ⟨h,.inr hv⟩ c3⟩
    by_cases hw:65536<w.length
    ·rw[if_pos hw]
     have cl:=HH hw;by_cases k3:k=3
     ·subst k3
      obtain⟨q7,q8⟩:=cond rfl;rw[q8]at cv;iterate 90 all_goals ((try conv=>whnf);try first|(with_reducible first|refine zY ?_|refine zN ?_|refine zT ?_|refine br (fun _=> ?_) (fun _=> ?_)|refine⟨rfl,?_⟩|refine au.call (cv) ?_|refine au.call (cs) ?_|refine au.call (cl) ?_))
      exact leaf rfl (.bool _)
     ·have q7:(k==3)=false:=by rw[beq_eq_false_iff_ne];exact k3
      iterate 90 all_goals ((try conv=>whnf);try first|(with_reducible first|refine zY ?_|refine zN ?_|refine zT ?_|refine br (fun _=> ?_) (fun _=> ?_)|refine⟨rfl,?_⟩|refine au.call (cs) ?_|refine au.call (cl) ?_))
      exact leaf rfl (.bool _)
    ·rw[if_neg hw]
     have cl:=Eh (s:=w) (by omega);cases hL:mI w with
     |error e=>
      obtain⟨e,p⟩:=e;rw[hL]at cl;have he:=mP w.length w 0 e p hL
      have q9:(fun q=>e==0&&q) ((p:Int)==0)=false:=by
       have:(e==0)=false:=by rw[beq_eq_false_iff_ne];exact he
       simp[this]
      by_cases k3:k=3
      ·subst k3
       obtain⟨q7,q8⟩:=cond rfl;rw[q8]at cv;iterate 90 all_goals ((try conv=>whnf);try first|(with_reducible first|refine zY ?_|refine zN ?_|refine zT ?_|refine br (fun _=> ?_) (fun _=> ?_)|refine⟨rfl,?_⟩|refine au.call (cv) ?_|refine au.call (cs) ?_|refine au.call (cl) ?_))
       exact leaf rfl (.bool _)
      ·have q7:(k==3)=false:=by rw[beq_eq_false_iff_ne];exact k3
       iterate 90 all_goals ((try conv=>whnf);try first|(with_reducible first|refine zY ?_|refine zN ?_|refine zT ?_|refine br (fun _=> ?_) (fun _=> ?_)|refine⟨rfl,?_⟩|refine au.call (cs) ?_|refine au.call (cl) ?_))
       exact leaf rfl (.bool _)
     |ok l=>
      rw[hL]at cl;cases l with
      |nil=>
       by_cases k3:k=3
       ·subst k3
        obtain⟨q7,q8⟩:=cond rfl;rw[q8]at cv;iterate 110 all_goals ((try conv=>whnf);try first|(with_reducible first|refine zY ?_|refine zN ?_|refine zT ?_|refine br (fun _=> ?_) (fun _=> ?_)|refine⟨rfl,?_⟩|refine au.call (cv) ?_|refine au.call (cs) ?_|refine au.call (cl) ?_))
        exact leaf rfl (.bool _)
       ·have q7:(k==3)=false:=by rw[beq_eq_false_iff_ne];exact k3
        iterate 110 all_goals ((try conv=>whnf);try first|(with_reducible first|refine zY ?_|refine zN ?_|refine zT ?_|refine br (fun _=> ?_) (fun _=> ?_)|refine⟨rfl,?_⟩|refine au.call (cs) ?_|refine au.call (cl) ?_))
        exact leaf rfl (.bool _)
      |cons y r=>
       cases r with
       |nil=>
        obtain⟨y,p⟩:=y;cases p with
        |zero=>
         by_cases k3:k=3
         ·subst k3
          obtain⟨q7,q8⟩:=cond rfl;rw[q8]at cv;iterate 110 all_goals ((try conv=>whnf);try first|(with_reducible first|refine zY ?_|refine zN ?_|refine zT ?_|refine br (fun _=> ?_) (fun _=> ?_)|refine⟨rfl,?_⟩|refine au.call (cv) ?_|refine au.call (cs) ?_|refine au.call (cl) ?_))
          exact leaf (QB y _ t 0) (.bool _)
         ·have q7:(k==3)=false:=by rw[beq_eq_false_iff_ne];exact k3
          iterate 110 all_goals ((try conv=>whnf);try first|(with_reducible first|refine zY ?_|refine zN ?_|refine zT ?_|refine br (fun _=> ?_) (fun _=> ?_)|refine⟨rfl,?_⟩|refine au.call (cs) ?_|refine au.call (cl) ?_))
          exact leaf (QB y k t 0) (.bool _)
        |succ p=>
         by_cases k3:k=3
         ·subst k3
          obtain⟨q7,q8⟩:=cond rfl;rw[q8]at cv;iterate 110 all_goals ((try conv=>whnf);try first|(with_reducible first|refine zY ?_|refine zN ?_|refine zT ?_|refine br (fun _=> ?_) (fun _=> ?_)|refine⟨rfl,?_⟩|refine au.call (cv) ?_|refine au.call (cs) ?_|refine au.call (cl) ?_))
          exact leaf (QC y _ t p) (.bool _)
         ·have q7:(k==3)=false:=by rw[beq_eq_false_iff_ne];exact k3
          iterate 110 all_goals ((try conv=>whnf);try first|(with_reducible first|refine zY ?_|refine zN ?_|refine zT ?_|refine br (fun _=> ?_) (fun _=> ?_)|refine⟨rfl,?_⟩|refine au.call (cs) ?_|refine au.call (cl) ?_))
          exact leaf (QC y k t p) (.bool _)
       |cons z r=>
        have UA:(((y::z::r).length:Int)==1)=false:=by rw[beq_eq_false_iff_ne];simp only[List.length_cons];omega
        by_cases k3:k=3
        ·subst k3
         obtain⟨q7,q8⟩:=cond rfl;rw[q8]at cv;iterate 110 all_goals ((try conv=>whnf);try first|(with_reducible first|refine zY ?_|refine zN ?_|refine zT ?_|refine br (fun _=> ?_) (fun _=> ?_)|refine⟨rfl,?_⟩|refine au.call (cv) ?_|refine au.call (cs) ?_|refine au.call (cl) ?_))
         exact leaf (by obtain⟨a,b⟩:=y;cases b<;>rfl) (.bool _)
        ·have q7:(k==3)=false:=by rw[beq_eq_false_iff_ne];exact k3
         iterate 110 all_goals ((try conv=>whnf);try first|(with_reducible first|refine zY ?_|refine zN ?_|refine zT ?_|refine br (fun _=> ?_) (fun _=> ?_)|refine⟨rfl,?_⟩|refine au.call (cs) ?_|refine au.call (cl) ?_))
         exact leaf (by obtain⟨a,b⟩:=y;cases b<;>rfl) (.bool _)
end Go.Proofs.YtbjifmbemdhndaaGreatDoor
