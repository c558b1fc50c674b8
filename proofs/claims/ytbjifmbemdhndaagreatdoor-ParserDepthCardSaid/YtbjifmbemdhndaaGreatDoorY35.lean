/- Parts of the proof of PParserDepth, one behind the other, with short names. -/
import Derived.Test.YtbjifmbemdhndaaGreatDoorY34
import Derived.Test.YtbjifmbemdhndaaGreatDoorY33
set_option linter.unusedVariables false
set_option linter.unusedSimpArgs false
namespace Go.Proofs.YtbjifmbemdhndaaGreatDoor
open Ab Go.RowKit
set_option maxRecDepth 100000
set_option maxHeartbeats 4000000
attribute [local irreducible] aO bx
section
def WL(b:Bool)(ys:List Tk)(h':Heap):Prop:= ∃g,h'.obj 0=some (mc b (.sl 1 g 4 0 ys.length none))/\h'.obj 1=some (nY g ys)
def WN(b:Bool)(ys:List Tk)(h':Heap):Prop:=(ys=[]/\h'.obj 0=some (mc b .ak))\/(ys≠[]/\ ∃j g,0<j/\h'.obj 0=some (mc b (.sl j g 4 0 ys.length none))/\h'.obj j=some (nY g ys))
theorem WL.of{b:Bool}{ys zs:List Tk}{n g:Nat}{h':Heap}(e:zs=ys)(hn:n=zs.length)(h0:h'.obj 0=some (mc b (.sl 1 g 4 0 n none)))(h1:h'.obj 1=some (nY g zs)):WL b ys h':=by
 subst e;subst hn;exact⟨g,h0,h1⟩
theorem WN.of{b:Bool}{ys zs:List Tk}{n j g:Nat}{h':Heap}(e:zs=ys)(hne:zs≠[])(hj:0<j)(hn:n=zs.length)(h0:h'.obj 0=some (mc b (.sl j g 4 0 n none)))(h1:h'.obj j=some (nY g zs)):WN b ys h':=by
 subst e;subst hn;exact .inr ⟨hne,j,g,hj,h0,h1⟩
theorem WN.nil{b:Bool}{ys:List Tk}{h':Heap}(e:[]=ys)(h0:h'.obj 0=some (mc b .ak)):WN b ys h':=by
 subst e;exact .inl ⟨rfl,h0⟩
theorem WC.of{f:FuncId}{us:List SV}{b b':Bool}{xs ys:List Tk}(hl: ∀a∈us,bA a)
  (hN:xs=[]->aP Tryz.prog f (.ref 0 0 0 0::us) ⟨1,[(0,mc b .ak)]⟩ fun r h'=>r= .ret (.aN [])/\WN b' ys h')
  (hL:xs≠[]-> ∀g,aP Tryz.prog f (.ref 0 0 0 0::us) ⟨2,[(1,nY g xs),(0,mc b (.sl 1 g 4 0 xs.length none))]⟩ fun r h'=>r= .ret (.aN [])/\WL b' ys h'):WC f us b b' xs ys:=by
 refine⟨hl,yu b,yu b',qP _,qP _,fun h hh=> ?_⟩;cases xs with
 |nil=>
  cases hh
  refine(hN rfl).mono fun r h' ⟨h1,h2⟩=>⟨h1,?_⟩
  rcases h2 with⟨rfl,h2⟩|⟨hne,j,g,hj,h3,h4⟩
  ·exact h2
  ·exact WE.E (by simpa using hne) hj (by simp) h3 h4
 |cons x xr=>
  cases hh
  rename_i g;rw[show (List.map wY xr).length+1=(x::xr).length by simp];refine(hL (by simp) g).mono fun r h' ⟨h1,g',h2,h3⟩=>⟨h1,WE.L (x:=wY x) (xs:=xr.map wY) (by simp) h2 h3⟩
theorem yx(xs:List Tk):(xs.map wY).length=xs.length:=List.length_map ..
section
variable {f:FuncId} {us:List SV} {b b':Bool} {xs ys:List Tk} {i j n m g:Nat} {l:List (Nat×aA)} {R:bV->Heap->Prop}
theorem WC.L(hp:WC f us b b' xs ys)(hi:aG l i=some (mc b (.sl j g 4 0 m none)))(hj:aG l j=some (nY g xs))(hm:m=xs.length)(hx:xs≠[])(hij:Nat.beq i j=false)
  (hR: ∀g',R (.ret (.aN [])) ⟨n,bC (bC l i (mc b' (.sl j g' 4 0 ys.length none))) j (nY g' ys)⟩):aP Tryz.prog f (.ref i 0 0 0::us) ⟨n,l⟩ R:=by
 subst hm;refine oU.QF hp hi hj (by simp) (by simpa using hx) (fun h=>by subst h;rw[Nat.beq_refl]at hij;cases hij) fun g'=> ?_
 rw[yx];exact hR g'
theorem WC.N(hp:WC f us b b' [] ys)(hi:aG l i=some (mc b .ak))(hy:ys≠[])
  (hR: ∀g',R (.ret (.aN [])) ⟨n+1,(n,nY g' ys)::bC l i (mc b' (.sl n g' 4 0 ys.length none))⟩):aP Tryz.prog f (.ref i 0 0 0::us) ⟨n,l⟩ R:=by
 refine oU.QH hp (by simpa using hy) hi fun g'=> ?_
 rw[yx];exact hR g'
theorem WC.Z(hp:WC f us b b' [] [])(hi:aG l i=some (mc b .ak))(hR:R (.ret (.aN [])) ⟨n,bC l i (mc b' .ak)⟩):aP Tryz.prog f (.ref i 0 0 0::us) ⟨n,l⟩ R:=
 oU.QG hp hi hR
theorem eO(ws:List (List UInt8)){k:Nat}{sk:Sk}(hw:ws.length<=1000)(hi:aG l i=some (mc b (.sl j g 4 0 m none)))(hj:aG l j=some (nY g xs))(hk:aG l k=some (.vec 0 1 (ws.map SV.str) sk))(hm:m=xs.length)(hx:xs≠[])(hij:Nat.beq i j=false)(hik:Nat.beq i k=false)(Wh:Nat.beq j k=false)(hl:xs.length<=60000)
  (hR: ∀g',R (.ret (.aN [])) ⟨n,bC (bC (iQ (fun q=>Nat.beq q k) l) i (mc b (.sl j g' 4 0 (xs++ws.map bg).length none))) j (nY g' (xs++ws.map bg))⟩):aP Tryz.prog 65 [.ref i 0 0 0,.sl k 0 1 0 ws.length (some ws.length)] ⟨n,l⟩ R:=by
 refine aP.Hu (fun q=>Nat.beq q k) (.same (.yg (oB (s:=ws) (g:=0) (sk:=sk) ?_ rfl) .nil)) ((Em hw hl).L (g:=g) ?_ ?_ hm hx hij hR)
 ·show aG (qX _ l) k=_
  rw[mF,if_pos (Nat.beq_refl k)];exact hk
 ·rw[gj,if_neg (by rw[hik];decide)]
  exact hi
 ·rw[gj,if_neg (by rw[Wh];decide)]
  exact hj
theorem jl(ws:List (List UInt8)){k:Nat}{sk:Sk}(hw:ws.length<=1000)(hi:aG l i=some (mc b .ak))(hk:aG l k=some (.vec 0 1 (ws.map SV.str) sk))(hik:Nat.beq i k=false)(hne:ws≠[])
  (hR: ∀g',R (.ret (.aN [])) ⟨n+1,(n,nY g' (ws.map bg))::bC (iQ (fun q=>Nat.beq q k) l) i (mc b (.sl n g' 4 0 (ws.map bg).length none))⟩):aP Tryz.prog 65 [.ref i 0 0 0,.sl k 0 1 0 ws.length (some ws.length)] ⟨n,l⟩ R:=by
 refine aP.Hu (fun q=>Nat.beq q k) (.same (.yg (oB (s:=ws) (g:=0) (sk:=sk) ?_ rfl) .nil)) ((Em (xs:=[]) hw (by simp)).N ?_ (by simpa using hne) hR)
 ·show aG (qX _ l) k=_
  rw[mF,if_pos (Nat.beq_refl k)];exact hk
 ·rw[gj,if_neg (by rw[hik];decide)]
  exact hi
end
theorem En(i:Int):gm (x8 i,0)= .agg [.int .u8 2,.str [],.int .u64 (IntKind.u64.wrap i),.int .i64 0]:=by
 have h:0<=IntKind.u64.wrap i:=by
  have h2:IntKind.u64.wrap i=i%18446744073709551616:=rfl;rw[h2];exact Int.emod_nonneg _ (by decide)
 show SV.agg [.int .u8 2,.str [],.int .u64 (((IntKind.u64.wrap i).toNat:Nat):Int),.int .i64 0]=_;rw[Int.toNat_of_nonneg h]
theorem HP{i:Int}{m:Nat}{sk:Sk}{l:List (Nat×aA)}{k:SV->Heap->Prop}
  (hk:k (.sl (m+1) 0 4 0 1 none) ⟨m+2,(m+1,nY 0 [x8 i])::(m,.vec 0 4 [wY (x8 i)] sk)::l⟩):
  aO 57 4 40 ⟨m+1,(m,.vec 0 4 [.agg [.int .u8 2,.str [],.int .u64 (IntKind.u64.wrap i),.int .i64 0]] sk)::l⟩ .ak (.sl m 0 4 0 1 (some 1)) k:=by
 rw[<- En];exact qM hk
theorem Eo{m i g n:Nat}{xs:List Tk}{x:Tk}{sk:Sk}{l:List (Nat×aA)}{k:SV->Heap->Prop}(ho:aG l i=some (nY g xs))(hn:n=xs.length)(sC:i<m)(hlen:xs.length<=90000)
  (hk:k (.sl i (g+1) 4 0 (n+1) none) ⟨m+1,(m,.vec 0 4 [wY x] sk)::bC l i (nY (g+1) (xs++[x]))⟩):
  aO 57 4 40 ⟨m+1,(m,.vec 0 4 [wY x] sk)::l⟩ (.sl i g 4 0 n none) (.sl m 0 4 0 1 (some 1)) k:=by
 subst hn;refine yw (v:=(x,0)) ho (yx xs).symm sC (by simp;omega) ?_;unfold nY at hk;rw[List.map_append]at hk;exact hk
theorem uS{i:Int}{m q g n:Nat}{xs:List Tk}{sk:Sk}{l:List (Nat×aA)}{k:SV->Heap->Prop}(ho:aG l q=some (nY g xs))(hn:n=xs.length)(sC:q<m)(hlen:xs.length<=90000)
  (hk:k (.sl q (g+1) 4 0 (n+1) none) ⟨m+1,(m,.vec 0 4 [wY (x8 i)] sk)::bC l q (nY (g+1) (xs++[x8 i]))⟩):
  aO 57 4 40 ⟨m+1,(m,.vec 0 4 [.agg [.int .u8 2,.str [],.int .u64 (IntKind.u64.wrap i),.int .i64 0]] sk)::l⟩ (.sl q g 4 0 n none) (.sl m 0 4 0 1 (some 1)) k:=by
 rw[<- En];exact Eo ho hn sC hlen hk
theorem Fz{v:Va}{b:Bool}{xs:List Tk}(hx:xs.length<=50000):WC 64 [.agg [.int .u8 v.k,.int .i64 v.i,.str v.s]] b b xs (xs++oI v):=by
 have cC: ∀a∈[SV.agg [.int .u8 v.k,.int .i64 v.i,.str v.s]],bA a:=bK (.agg (by simp only[List.mem_cons,List.not_mem_nil,or_false];rintro _ (rfl|rfl|rfl)<;>constructor));by_cases h0:v.k=0
 ·have q0:(v.k==0)=true:=by rw[h0];rfl
  rw[show oI v=[bg [110,117,108,108]] from if_pos h0];refine WC.of cC (fun hn=> ?_) fun hn g=> ?_
  ·subst hn
   refine lZ.call mixed rfl ?_;iterate 40 all_goals ((try conv=>whnf);try first|(with_reducible first|refine zY ?_|refine zN ?_|refine zT ?_|refine br (fun _=> ?_) (fun _=> ?_)|refine⟨rfl,?_⟩)|(refine jl [[110,117,108,108]] (by decide) rfl rfl rfl (by simp) fun g'=> ?_))
   exact WN.of rfl (by simp) (by decide) rfl rfl rfl
  ·refine lZ.call mixed rfl ?_
   iterate 40 all_goals ((try conv=>whnf);try first|(with_reducible first|refine zY ?_|refine zN ?_|refine zT ?_|refine br (fun _=> ?_) (fun _=> ?_)|refine⟨rfl,?_⟩)|(refine eO [[110,117,108,108]] (by decide) rfl rfl rfl rfl hn rfl rfl rfl (by omega) fun g'=> ?_))
   exact WL.of rfl rfl rfl rfl
 have q0:(v.k==0)=false:=beq_eq_false_iff_ne.2 h0;by_cases h1:v.k=1
 ·have q1:(v.k==1)=true:=by rw[h1];rfl
  by_cases h2:v.i=1
  ·have q2:(v.i==1)=true:=by rw[h2];rfl
   rw[show oI v=[bg [116,114,117,101]] by unfold oI;rw[if_neg h0,if_pos h1,if_pos h2]];refine WC.of cC (fun hn=> ?_) fun hn g=> ?_
   ·subst hn
    refine lZ.call mixed rfl ?_;iterate 40 all_goals ((try conv=>whnf);try first|(with_reducible first|refine zY ?_|refine zN ?_|refine zT ?_|refine br (fun _=> ?_) (fun _=> ?_)|refine⟨rfl,?_⟩)|(refine jl [[116,114,117,101]] (by decide) rfl rfl rfl (by simp) fun g'=> ?_))
    exact WN.of rfl (by simp) (by decide) rfl rfl rfl
   ·refine lZ.call mixed rfl ?_
    iterate 40 all_goals ((try conv=>whnf);try first|(with_reducible first|refine zY ?_|refine zN ?_|refine zT ?_|refine br (fun _=> ?_) (fun _=> ?_)|refine⟨rfl,?_⟩)|(refine eO [[116,114,117,101]] (by decide) rfl rfl rfl rfl hn rfl rfl rfl (by omega) fun g'=> ?_))
    exact WL.of rfl rfl rfl rfl
  ·have q2:(v.i==1)=false:=beq_eq_false_iff_ne.2 h2
   rw[show oI v=[bg [102,97,108,115,101]] by unfold oI;rw[if_neg h0,if_pos h1,if_neg h2]];refine WC.of cC (fun hn=> ?_) fun hn g=> ?_
   ·subst hn
    refine lZ.call mixed rfl ?_;iterate 40 all_goals ((try conv=>whnf);try first|(with_reducible first|refine zY ?_|refine zN ?_|refine zT ?_|refine br (fun _=> ?_) (fun _=> ?_)|refine⟨rfl,?_⟩)|(refine jl [[102,97,108,115,101]] (by decide) rfl rfl rfl (by simp) fun g'=> ?_))
    exact WN.of rfl (by simp) (by decide) rfl rfl rfl
   ·refine lZ.call mixed rfl ?_
    iterate 40 all_goals ((try conv=>whnf);try first|(with_reducible first|refine zY ?_|refine zN ?_|refine zT ?_|refine br (fun _=> ?_) (fun _=> ?_)|refine⟨rfl,?_⟩)|(refine eO [[102,97,108,115,101]] (by decide) rfl rfl rfl rfl hn rfl rfl rfl (by omega) fun g'=> ?_))
    exact WL.of rfl rfl rfl rfl
 have q1:(v.k==1)=false:=beq_eq_false_iff_ne.2 h1;by_cases h2:v.k=2
 ·have q2:(v.k==2)=true:=by rw[h2];rfl
  by_cases h3:v.i<0
  ·have q3:decide (v.i<0)=true:=decide_eq_true h3
   rw[show oI v=[bg [45],x8 (0-IntKind.u64.wrap v.i)] by unfold oI;rw[if_neg h0,if_neg h1,if_pos h2,if_pos h3]];refine WC.of cC (fun hn=> ?_) fun hn g=> ?_
   ·subst hn
    refine lZ.call mixed rfl ?_;iterate 60 all_goals ((try conv=>whnf);try first|(with_reducible first|refine zY ?_|refine zN ?_|refine zT ?_|refine br (fun _=> ?_) (fun _=> ?_)|refine⟨rfl,?_⟩)|(refine jl [[45]] (by decide) rfl rfl rfl (by simp) fun g'=> ?_)|(refine uS rfl rfl (by decide) (by decide) ?_))
    exact WN.of rfl (by simp) (by decide) rfl rfl rfl
   ·refine lZ.call mixed rfl ?_
    iterate 60 all_goals ((try conv=>whnf);try first|(with_reducible first|refine zY ?_|refine zN ?_|refine zT ?_|refine br (fun _=> ?_) (fun _=> ?_)|refine⟨rfl,?_⟩)|(refine eO [[45]] (by decide) rfl rfl rfl rfl hn rfl rfl rfl (by omega) fun g'=> ?_)|(refine uS rfl rfl (by decide) (by simp;omega) ?_))
    exact WL.of (by simp) (by simp) rfl rfl
  ·have q3:decide (v.i<0)=false:=decide_eq_false h3
   rw[show oI v=[x8 v.i] by unfold oI;rw[if_neg h0,if_neg h1,if_pos h2,if_neg h3]];refine WC.of cC (fun hn=> ?_) fun hn g=> ?_
   ·subst hn
    refine lZ.call mixed rfl ?_;iterate 60 all_goals ((try conv=>whnf);try first|(with_reducible first|refine zY ?_|refine zN ?_|refine zT ?_|refine br (fun _=> ?_) (fun _=> ?_)|refine⟨rfl,?_⟩)|(refine HP ?_))
    exact WN.of rfl (by simp) (by decide) rfl rfl rfl
   ·refine lZ.call mixed rfl ?_
    iterate 60 all_goals ((try conv=>whnf);try first|(with_reducible first|refine zY ?_|refine zN ?_|refine zT ?_|refine br (fun _=> ?_) (fun _=> ?_)|refine⟨rfl,?_⟩)|(refine uS rfl rfl (by decide) (by omega) ?_))
    exact WL.of rfl (by simp) rfl rfl
 ·have q2:(v.k==2)=false:=beq_eq_false_iff_ne.2 h2
  rw[show oI v=[⟨3,v.s,0⟩] by unfold oI;rw[if_neg h0,if_neg h1,if_neg h2]];refine WC.of cC (fun hn=> ?_) fun hn g=> ?_
  ·subst hn
   refine lZ.call mixed rfl ?_;iterate 60 all_goals ((try conv=>whnf);try first|(with_reducible first|refine zY ?_|refine zN ?_|refine zT ?_|refine br (fun _=> ?_) (fun _=> ?_)|refine⟨rfl,?_⟩)|(refine qM (v:=(⟨3,v.s,0⟩,0)) ?_))
   exact WN.of (zs:=[⟨3,v.s,0⟩]) rfl (by simp) (by decide) rfl rfl rfl
  ·refine lZ.call mixed rfl ?_
   iterate 60 all_goals ((try conv=>whnf);try first|(with_reducible first|refine zY ?_|refine zN ?_|refine zT ?_|refine br (fun _=> ?_) (fun _=> ?_)|refine⟨rfl,?_⟩)|(refine Eo (x:=⟨3,v.s,0⟩) rfl rfl (by decide) (by omega) ?_))
   exact WL.of rfl (by simp) rfl rfl
end
section
variable {l:List TP} {m e:Nat}
theorem aB(op:Int)(v:Va)(tb nm:List UInt8)(slot kd:Int)(args:List Ex):kq (.mk op v tb nm slot kd args)= .agg [.int .u8 op,.int .u8 v.k,.int .i64 v.i,.str v.s,.str tb,.str nm,.int .i64 slot,.int .u8 kd,gF (eP args)]:=by rw[kq]
theorem rU.ok{fn:FuncId}{f:Nat->cH Ex}(h:rU l m e fn f){i:Nat}(hi:i<=l.length){x:Ex}{j:Nat}(hf:f i= .ok x j):dj Tryz.prog fn [] (gQ l i m e) (.ret (kq x)) (gQ l j m e):=by
 have:=h i hi;rw[hf]at this;exact this
theorem rU.bad{fn:FuncId}{f:Nat->cH Ex}(h:rU l m e fn f){i:Nat}(hi:i<=l.length){er:Int}{j:Nat}(hf:f i= .bad er j):dj Tryz.prog fn [] (gQ l i m e) (.cZ (rR er (eN l m j))) (gQ l j m e):=by
 have:=h i hi;rw[hf]at this;exact this
theorem Ju(hl:l.length<=65536)(he:e<=40){dn:Option Lv}(h0:dn=none->e=40)(h1: ∀L,dn=some L->e<40/\rU l m (e+1) 120 L.iU)
  {Nk:Nat->cH Ex}(hc:rU l m e 166 Nk):rU l m e 120 (pL (aX l) dn Nk):=by
 intro i hi;unfold pL;have ci:=yl (l:=l) (m:=m) (e:=e) [110,111,116] i;cases hb:fM (aX l) [110,111,116] i with
 |false=>
  rw[hb]at ci;rw[if_neg (by decide)];cases hf:Nk i with
  |bad er j=>
   have c:=hc.bad hi hf;refine⟨aV,ai ..,ai ..,av ..,rQ.call mixed rfl ?_⟩;iterate 20 all_goals ((try conv=>whnf);try first|(with_reducible first|refine zY ?_|refine zN ?_|refine zT ?_|refine br (fun _=> ?_) (fun _=> ?_)|refine⟨rfl,?_⟩)|(refine ci.call rfl ?_)|(refine c.cZ rfl fun h=> ?_))
   exact cI (av _ _)
  |ok x j=>
   have c:=hc.ok hi hf;obtain⟨op,v,tb,nm,slot,kd,args⟩:=x;rw[aB]at c;refine⟨aV,ai ..,ai ..,aq _,rQ.call mixed rfl ?_⟩;iterate 20 all_goals ((try conv=>whnf);try first|(with_reducible first|refine zY ?_|refine zN ?_|refine zT ?_|refine br (fun _=> ?_) (fun _=> ?_)|refine⟨rfl,?_⟩)|(refine ci.call rfl ?_)|(refine c.call rfl ?_))
   exact cO (.lit (aq (.mk op v tb nm slot kd args))) rfl
 |true=>
  rw[hb]at ci;rw[if_pos rfl];have hlt:=gv hb;unfold je;cases hdn:dn with
  |none=>
   have hq:((e:Int)==40)=true:=by rw[h0 hdn];rfl
   have c:=ij (l:=l) (m:=m) (e:=e) 241 i;refine⟨aV,ai ..,ai ..,av ..,rQ.call mixed rfl ?_⟩;iterate 20 all_goals ((try conv=>whnf);try first|(with_reducible first|refine zY ?_|refine zN ?_|refine zT ?_|refine br (fun _=> ?_) (fun _=> ?_)|refine⟨rfl,?_⟩)|(refine ci.call rfl ?_)|(refine c.cZ rfl fun h=> ?_)|(refine dm.call mixed rfl ?_))
   exact cI (av _ _)
  |some L=>
   obtain⟨hlt2,hn⟩:=h1 L hdn;have hq:((e:Int)==40)=false:=by rw[beq_eq_false_iff_ne];omega
   have e7:IntKind.i64.wrap ((i:Int)+1)=((i+1:Nat):Int):=bL (by omega);have e8:IntKind.i64.wrap ((e:Int)+1)=((e+1:Nat):Int):=bL (by omega);have e9:IntKind.i64.wrap (((e+1:Nat):Int)-1)=(e:Int):=by rw[uB (by omega) (by omega)];omega
   dsimp only;cases hf:L.iU (i+1)with
   |bad er j=>
    have c:=hn.bad hlt hf;refine⟨aV,ai ..,ai ..,av ..,rQ.call mixed rfl ?_⟩;iterate 40 all_goals ((try conv=>whnf);try first|(with_reducible first|refine zY ?_|refine zN ?_|refine zT ?_|refine br (fun _=> ?_) (fun _=> ?_)|refine⟨rfl,?_⟩)|(refine ci.call rfl ?_)|(refine c.cZ (by rw[e7,e8];rfl) fun h=> ?_)|(refine dm.call mixed rfl ?_)|(refine Cg.call mixed rfl ?_))
    exact cI (av _ _)
   |ok x j=>
    have c:=hn.ok hlt hf;obtain⟨op,v,tb,nm,slot,kd,args⟩:=x;rw[aB]at c;refine⟨aV,ai ..,ai ..,aq _,rQ.call mixed rfl ?_⟩;iterate 40 all_goals ((try conv=>whnf);try first|(with_reducible first|refine zY ?_|refine zN ?_|refine zT ?_|refine br (fun _=> ?_) (fun _=> ?_)|refine⟨rfl,?_⟩)|(refine ci.call rfl ?_)|(refine c.call (by rw[e7,e8];rfl) ?_)|(refine dm.call mixed rfl ?_)|(refine Cg.call mixed rfl ?_))
    exact cO (bX (oy rfl (.lit (aq (.mk op v tb nm slot kd args))))) (by rw[e9];rfl)
end
theorem dw(x:Ex):au Tryz.prog 67 [kq x] (.int .i64 (lz x)):=by
 refine bu (bK (aq _)) (KH.call mixed rfl ?_);obtain⟨op,v,tb,nm,slot,kd,args⟩:=x;rw[aB];iterate 60 all_goals ((try conv=>whnf);try first|(with_reducible first|refine zY ?_|refine zN ?_|refine zT ?_|refine br (fun _=> ?_) (fun _=> ?_)|refine⟨rfl,?_⟩))
 all_goals
  refine leaf (congrArg (SV.int .i64) ?_) (.int _ _);simp only[beq_iff_eq,beq_eq_false_iff_ne,ne_eq,decide_eq_true_eq,decide_eq_false_iff_not]at*;unfold lz rM;dsimp only
  (repeat' split)<;>omega
def WX(x:Ex):Prop:= ∀(b:Bool) (xs:List Tk),xs.length+(ga x).1.length<=40000->WC 24 [kq x] b (b||(ga x).2) xs (xs++(ga x).1)
def kr(x:Ex):Wa:=⟨(ga x).1,(ga x).2,lz x,D5 x⟩
theorem bQ{x:Ex}(hx:WX x){least:Int}{b:Bool}{xs:List Tk}(hb:xs.length+(bZ (kr x) least).length<=40000):
  WC 68 [kq x,.int .i64 least] b (b||(ga x).2) xs (xs++bZ (kr x) least):=by
 have cC: ∀a∈[kq x,SV.int .i64 least],bA a:=kJ (aq _) (.int _ _);have cb:=dw x;by_cases h:least<=lz x
 ·have q:decide (least<=lz x)=true:=decide_eq_true h
  have e:bZ (kr x) least=(ga x).1:=if_pos h;rw[e]at hb ⊢;have c:=hx b xs hb;obtain⟨op,v,tb,nm,slot,kd,args⟩:=x;rw[aB]at cb c ⊢;rw[aB]at cC;refine WC.of cC (fun hn=> ?_) fun hn g=> ?_
  ·subst hn
   by_cases hz:(ga (.mk op v tb nm slot kd args)).1=[]
   ·rw[hz]at c ⊢
    refine wN.call mixed rfl ?_;iterate 40 all_goals ((try conv=>whnf);try first|(with_reducible first|refine zY ?_|refine zN ?_|refine zT ?_|refine br (fun _=> ?_) (fun _=> ?_)|refine⟨rfl,?_⟩|refine au.call (cb) ?_)|(refine c.Z rfl ?_))
    exact WN.nil rfl rfl
   ·refine wN.call mixed rfl ?_
    iterate 40 all_goals ((try conv=>whnf);try first|(with_reducible first|refine zY ?_|refine zN ?_|refine zT ?_|refine br (fun _=> ?_) (fun _=> ?_)|refine⟨rfl,?_⟩|refine au.call (cb) ?_)|(refine c.N rfl hz fun g'=> ?_))
    exact WN.of rfl hz (by decide) rfl rfl rfl
  ·refine wN.call mixed rfl ?_
   iterate 40 all_goals ((try conv=>whnf);try first|(with_reducible first|refine zY ?_|refine zN ?_|refine zT ?_|refine br (fun _=> ?_) (fun _=> ?_)|refine⟨rfl,?_⟩|refine au.call (cb) ?_)|(refine c.L rfl rfl rfl hn rfl fun g'=> ?_))
   exact WL.of rfl rfl rfl rfl
 ·have q:decide (least<=lz x)=false:=decide_eq_false h
  have e:bZ (kr x) least=bg [40]::((ga x).1++[bg [41]]):=if_neg h;rw[e]at hb ⊢;simp only[List.length_cons,List.length_append,List.length_nil]at hb;have c:=hx b (xs++[bg [40]]) (by simp;omega);obtain⟨op,v,tb,nm,slot,kd,args⟩:=x;rw[aB]at cb c ⊢;rw[aB]at cC;refine WC.of cC (fun hn=> ?_) fun hn g=> ?_
  ·subst hn
   refine wN.call mixed rfl ?_;iterate 60 all_goals ((try conv=>whnf);try first|(with_reducible first|refine zY ?_|refine zN ?_|refine zT ?_|refine br (fun _=> ?_) (fun _=> ?_)|refine⟨rfl,?_⟩|refine au.call (cb) ?_)|(refine jl [[40]] (by decide) rfl rfl rfl (by simp) fun g'=> ?_)|(refine c.L rfl rfl rfl (by simp) rfl fun g'=> ?_)|(refine eO [[41]] (by decide) rfl rfl rfl rfl (by simp) rfl rfl rfl (by simp;omega) fun g'=> ?_))
   exact WN.of (by simp) (by simp) (by decide) rfl rfl rfl
  ·refine wN.call mixed rfl ?_
   iterate 60 all_goals ((try conv=>whnf);try first|(with_reducible first|refine zY ?_|refine zN ?_|refine zT ?_|refine br (fun _=> ?_) (fun _=> ?_)|refine⟨rfl,?_⟩|refine au.call (cb) ?_)|(refine eO [[40]] (by decide) rfl rfl rfl rfl hn rfl rfl rfl (by omega) fun g'=> ?_)|(refine c.L rfl rfl rfl (by simp) rfl fun g'=> ?_)|(refine eO [[41]] (by decide) rfl rfl rfl rfl (by simp) rfl rfl rfl (by simp;omega) fun g'=> ?_))
   exact WL.of (by simp) rfl rfl rfl
end Go.Proofs.YtbjifmbemdhndaaGreatDoor
