/- Parts of the proof of PCatalogBack, one behind the other, with short names. -/
import Derived.Test.YtegmnocpkgpgeaaGreatDoorZ42
import Derived.Test.YtegmnocpkgpgeaaGreatDoorZ44
set_option linter.unusedVariables false
set_option linter.unusedSimpArgs false
namespace Go.Proofs.YtegmnocpkgpgeaaGreatDoor
open Ab Go.RowKit
set_option maxRecDepth 100000
set_option maxHeartbeats 8000000
attribute [local irreducible] aS bH
section
def GW(t:List UInt8):Prop:=cS ⟨1,t,0⟩=true/\kX bC t=false
theorem zV{s:List UInt8}{p:Nat}{l:List TP}(h:uN s p l): ∀x∈l,∃u n,fG u= .ok x.1 n:=by
 induction h with
 |none h=>simp
 |some hb hc ho h ih=>
  simp only[List.mem_cons];rintro y (rfl|hy)
  ·exact⟨_,_,ho⟩
  ·exact ih y hy
theorem DK{l:List TP}{i:Nat}(h:i<l.length):l.getD i bG∈l:=by
 rw[List.getD,List.getElem?_eq_getElem h];exact List.getElem_mem h
theorem FL{s:List UInt8}{l:List TP}(hs:s.length<=65536)(h:lR s= .ok l):ig l GW:=by
 have hx:=mE _ _ _ _ (Nat.le_refl _) h;refine⟨Nat.le_trans (IG hx) hs,fun i hk hr=> ?_,fun i hk=> ?_⟩
 ·obtain⟨u,n,ho⟩:=zV hx _ (DK (ie hk (by decide)))
  have hk':=beq_iff_eq.1 hk;rcases tY ho with h|h|h|h
  ·refine⟨?_,hr⟩
   have:(l.getD i bG).1=⟨1,(l.getD i bG).1.t,0⟩:=by rw[<- h.1,<-h.2.1]
   rw[<- this];exact h.2.2.2
  ·omega
  ·omega
  ·omega
 ·obtain⟨u,n,ho⟩:=zV hx _ (DK (ie hk (by decide)))
  have hk':=beq_iff_eq.1 hk;rcases tY ho with h|h|h|h
  ·omega
  ·omega
  ·have hf:=h.2.2.2
   rcases Nat.lt_or_ge 64 (l.getD i bG).1.t.length with hl|hl
   ·unfold cS at hf
    rw[if_neg (by omega),if_neg (by omega),if_pos ⟨hk',.inl hl⟩]at hf;cases hf
   ·exact hl
  ·omega
theorem LZ{s:List UInt8}{h:Heap}{R:bu->Heap->Prop}(hs:s.length<=65536)(hok: ∀l,lR s= .ok l->ig l GW->R (.ret (.bn [wU l,gO 0 0])) h)(eO: ∀er a,lR s= .error (er,a)->er≠0->R (.ret (.bn [.af,gO er a])) h):
  aC Tryz.prog 55 [.str s] h R:=by
 have c:=GF hs;cases hl:lR s with
 |ok l=>
  rw[hl]at c;exact c.less (sP _) (YF l) (hok l hl (FL hs hl))
 |error p=>
  obtain⟨er,a⟩:=p;rw[hl]at c;exact c.call (eO er a hl (oM _ _ _ _ _ hl))
theorem r4{er:Int}(h:er≠0){b:Bool}:(!(fun q=>er==0&&q) b)=true:=by
 show(!(er==0&&b))=true;rw[beq_eq_false_iff_ne.2 h];rfl
section
def P7:List (Nat×bI):=[(57,t57),(123,t123),(56,t56)]
theorem Ov:jz Tryz.prog P7:= .cons UO (.cons Re (.cons UN .nil))
theorem L0{f:FuncId}{t:bI}(ht:aB Tryz.prog f t){args:List SV}{h:Heap}{R:bu->Heap->Prop}(hn:Nat.ble args.length t.nt=true)
  (hp:DG Tryz.prog (bz Tryz.prog) (dR Tryz.prog) t.code (SQ Tryz.prog (VS Tryz.prog P7 (bz Tryz.prog) (dR Tryz.prog)) t.rs R) (gh 0 args) h []):aC Tryz.prog f args h R:=
 ht.VO r9 (fun _ _ _ _ h=>h) (FA mixed Ov r9 fun _ _ _ _ h=>h) mixed hn hp
def Ow:Sm:={kind:=0}
def DL(T:ld)(j:Nat):Nat:=if dY T [59] j then j+1 else j
def xT(l:List TP)(m:Nat):Sm×Int×Nat:=match n7 (aO l) l.length (kX bC) (iP l) 0 with
 | .bad er j=>(Ow,er,dG l m j)
 | .ok x j=>if DL (aO l) j<l.length then(Ow,240,dG l m (DL (aO l) j))else(x,0,0)
def iB(s:List UInt8):Sm×Int×Nat:=match lR s with
 | .error (er,a)=>(Ow,er,a)
 | .ok l=>xT l s.length
def uq(s:List UInt8)(v:SV):Prop:=v= .bn [qN (iB s).1,gO (iB s).2.1 (iB s).2.2]/\((iB s).2.1=0/\(iB s).2.2=0/\Bk GW (iB s).1\/(iB s).2.1≠0/\(iB s).1=Ow)
theorem xU{A:Heap}:bA A (.agg (uj 0 [] [] .af .af false .af .af .af .af .af .af 0 .af)) (qN Ow):=fQ Ow .nil .nil .nil .nil .nil .nil .nil .nil .nil .nil
theorem r5{s:List UInt8}{er:Int}{a:Nat}{v:SV}{h':Heap}(hf:iB s=(Ow,er,a))(he:er≠0)(hv:bA h' v (qN Ow)): ∃u u',bu.ret (.bn [v,gO er a])= .ret u'/\bA h' u' u/\uq s u:=
 ⟨.bn [qN Ow,gO er a],_,rfl,ij hv (.lit (lq _ _)),by unfold uq;rw[hf];exact⟨rfl,.inr ⟨he,rfl⟩⟩⟩
theorem Je{s:List UInt8}{x:Sm}{h':Heap}(hf:iB s=(x,0,0))(hx:Bk GW x): ∃u u',bu.ret (.bn [qN x,gO 0 0])= .ret u'/\bA h' u' u/\uq s u:=
 ⟨.bn [qN x,gO 0 0],_,rfl,ij (.lit (dL x)) (.lit (lq _ _)),by unfold uq;rw[hf];exact⟨rfl,.inl ⟨rfl,rfl,hx⟩⟩⟩
theorem Ox{s:List UInt8}(hs:s.length<=65536):PQ Tryz.prog 71 [.str s] (uq s):=by
 refine⟨di (.str _),L0 U3 rfl ?_⟩;iterate 40 all_goals ((try conv=>whnf);try first|refine zY ?_ (r4 (by assumption))|(with_reducible first|refine zY ?_|refine zN ?_|refine zT ?_|refine br (fun _=> ?_) (fun _=> ?_)|refine⟨rfl,?_⟩)|(refine LZ hs (fun l hl hg=> ?_) (fun er a hl he=> ?_)))
 rotate_left 1
 ·exact r5 (by rw[iB,hl]) he xU
 have qV:=hg.len;iterate 60 all_goals ((try conv=>whnf);try first|refine zY ?_ (r4 (by assumption))|(with_reducible first|refine zY ?_|refine zN ?_|refine zT ?_|refine br (fun _=> ?_) (fun _=> ?_)|refine⟨rfl,?_⟩)|(refine(Bn hg).go (i:=0) (fun x j h1 h2 _ _=> ?_) (fun er j h1 h2=> ?_) (hz:=rfl) (hd:=rfl))|(refine eI (fun h3 _=> ?_) (fun h3=> ?_))|(refine xI (fun h4=> ?_) (fun h4=> ?_)))
 all_goals first
  |exact r5 (by rw[iB,hl];dsimp only;rw[xT,h1]) h2 xU
  |exact r5 (by rw[iB,hl];dsimp only;rw[xT,h1];dsimp only;rw[DL,h3];exact if_pos h4) (by decide) xU
  |exact Je (by rw[iB,hl];dsimp only;rw[xT,h1];dsimp only;rw[DL,h3];exact if_neg (Nat.not_lt.2 h4)) h2
def vI(l:List TP)(m:Nat):List Sm×Int×Nat:=match bM (aO l) l.length (n7 (aO l) l.length (kX bC) (iP l)) l.length [] 0 with
 | .bad er j=>([],er,dG l m j)
 | .ok xs _=>(xs,0,0)
def cN(s:List UInt8):List Sm×Int×Nat:=match lR s with
 | .error (er,a)=>([],er,a)
 | .ok l=>vI l s.length
@[reducible] def FM (xs:List Sm):SV:=rowOf 23 (xs.map qN)
def td(s:List UInt8)(v:SV):Prop:=v= .bn [FM (cN s).1,gO (cN s).2.1 (cN s).2.2]/\((cN s).2.1=0/\(cN s).2.2=0/\(∀ x∈(cN s).1,Bk GW x)/\(cN s).1.length<=64\/(cN s).2.1≠0/\(cN s).1=[])
theorem j3{s:List UInt8}{er:Int}{a:Nat}{h':Heap}(hf:cN s=([],er,a))(he:er≠0): ∃u u',bu.ret (.bn [.af,gO er a])= .ret u'/\bA h' u' u/\td s u:=
 ⟨.bn [FM [],gO er a],_,rfl,ij .nil (.lit (lq _ _)),by unfold td;rw[hf];exact⟨rfl,.inr ⟨he,rfl⟩⟩⟩
theorem zW{s:List UInt8}{xs:List Sm}{v:SV}{h':Heap}(hf:cN s=(xs,0,0))(hx:(∀ x∈xs,Bk GW x)/\xs.length<=64)(hv:bA h' v (FM xs)): ∃u u',bu.ret (.bn [v,gO 0 0])= .ret u'/\bA h' u' u/\td s u:=
 ⟨.bn [FM xs,gO 0 0],_,rfl,ij hv (.lit (lq _ _)),by unfold td;rw[hf];exact⟨rfl,.inl ⟨rfl,rfl,hx⟩⟩⟩
@[reducible] def Bo:ai:= .vec 0 2 [gO 0 0] ⟨false,some 28⟩
@[reducible] def VX (v:SV):ai:= .vec 0 1 [v] ⟨false,some 78⟩
abbrev DM(l:List TP):Nat->bB Sm:=n7 (aO l) l.length (kX bC) (iP l)
inductive Jf(l:List TP)(r:bB (List Sm)) where
 |E (f i:Nat) (hi:i<=l.length) (hf:l.length<=i+f) (h:r=bM (aO l) l.length (DM l) f [] i)
 |L (g:Nat) (xs:List Sm) (cs:List SV) (n f i:Nat) (hcs:cs=xs.map qN) (hn:n=xs.length) (h0:0<xs.length) (hx: ∀x∈xs,Bk GW x) (yp:xs.length<=64) (hi:i<=l.length) (hf:l.length<=i+f) (h:r=bM (aO l) l.length (DM l) f xs i)
@[reducible] def Jf.hp {l:List TP} {r:bB (List Sm)} (m:Nat):Jf l r->Heap
  | .E _ i .. =>⟨3,[(2,gv l i m 0),(1,Bo),(0,VX .af)]⟩
  | .L g _ cs n _ i .. =>⟨5,[(4,.vec g 23 cs ⟨true,some 93⟩),(2,gv l i m 0),(1,Bo),(0,VX (.sl 4 g 23 0 n none))]⟩
def Jf.mu{l:List TP}{r:bB (List Sm)}:Jf l r->Nat
 | .E _ i .. =>l.length-i
 | .L _ _ _ _ _ i .. =>l.length-i
theorem L1{T:ld}{len:Nat}{stmt:Nat->bB Sm}{f i:Nat}{acc:List Sm}(h: ¬i<len):bM T len stmt f acc i= .ok acc i:=by cases f<;>simp[bM,h]
theorem go_succ{len f i:Nat}(h:i<len)(hf:len<=i+f): ∃q,f=q+1:=⟨f-1,by omega⟩
theorem L2(n:Nat)(xs:List Sm)(c:Sm): ∀v∈xs.map qN++[qN c],SV.lt 8 n v=true:=by
 intro v hv;rcases List.mem_append.1 hv with h|h
 ·obtain⟨x,_,rfl⟩:=List.mem_map.1 h
  rfl
 ·obtain rfl:=List.mem_singleton.1 h
  rfl
theorem L3{i n:Nat}(h:decide ((i:Int)<(n:Int))=false): ¬i<n:=by have:=of_decide_eq_false h;omega
theorem G8{i n:Nat}(h:decide ((i:Int)<(n:Int))=true):i<n:=by have:=of_decide_eq_true h;omega
section
variable {T:ld} {len f i j:Nat} {stmt:Nat->bB Sm} {acc:List Sm} {x:Sm}
theorem G9(h:i<len)(h1:dY T [59] i=true):bM T len stmt (f+1) acc i=bM T len stmt f acc (i+1):=by rw[bM,if_pos h,if_pos h1]
theorem Oy(h:i<len)(h1:dY T [59] i=false)(h2:64<=acc.length):bM T len stmt (f+1) acc i= .bad 3 i:=by rw[bM,if_pos h,if_neg (by rw[h1];decide),if_pos h2]
theorem vJ(h:i<len)(h1:dY T [59] i=false)(h2:acc.length<64):bM T len stmt (f+1) acc i=(stmt i).then fun x j=>if dY T [59] j then bM T len stmt f (acc++[x]) (j+1)else if j<len then .bad 240 j else bM T len stmt f (acc++[x]) j:=by
 rw[bM,if_pos h,if_neg (by rw[h1];decide),if_neg (by omega)]
theorem L4{er:Int}(h:i<len)(h1:dY T [59] i=false)(h2:acc.length<64)(h3:stmt i= .bad er j):bM T len stmt (f+1) acc i= .bad er j:=by rw[vJ h h1 h2,h3];rfl
theorem He(h:i<len)(h1:dY T [59] i=false)(h2:acc.length<64)(h3:stmt i= .ok x j)(h4:dY T [59] j=true):bM T len stmt (f+1) acc i=bM T len stmt f (acc++[x]) (j+1):=by rw[vJ h h1 h2,h3];exact if_pos h4
theorem Hf(h:i<len)(h1:dY T [59] i=false)(h2:acc.length<64)(h3:stmt i= .ok x j)(h4:dY T [59] j=false)(h5:j<len):bM T len stmt (f+1) acc i= .bad 240 j:=by rw[vJ h h1 h2,h3];show(if _ then _ else _)=_;rw[if_neg (by rw[h4];decide),if_pos h5]
theorem Hg(h:i<len)(h1:dY T [59] i=false)(h2:acc.length<64)(h3:stmt i= .ok x j)(h4:dY T [59] j=false)(h5: ¬j<len):bM T len stmt (f+1) acc i=bM T len stmt f (acc++[x]) j:=by rw[vJ h h1 h2,h3];show(if _ then _ else _)=_;rw[if_neg (by rw[h4];decide),if_neg h5]
end
theorem L5{s:List UInt8}(hs:s.length<=65536):PQ Tryz.prog 28 [.str s] (td s):=by
 refine⟨di (.str _),L0 Us rfl ?_⟩;iterate 40 all_goals ((try conv=>whnf);try first|refine zY ?_ (r4 (by assumption))|(with_reducible first|refine zY ?_|refine zN ?_|refine zT ?_|refine br (fun _=> ?_) (fun _=> ?_)|refine⟨rfl,?_⟩)|(refine LZ hs (fun l hl hg=> ?_) (fun er a hl he=> ?_)))
 rotate_left 1
 ·exact j3 (by rw[cN,hl]) he
 have qV:=hg.len;have hR: ∀ {xs j},bM (aO l) l.length (DM l) l.length [] 0= .ok xs j->cN s=(xs,0,0):=fun h=>by rw[cN,hl];dsimp only;rw[vI,h]
 have hB: ∀ {er j},bM (aO l) l.length (DM l) l.length [] 0= .bad er j->cN s=([],er,dG l s.length j):=fun h=>by rw[cN,hl];dsimp only;rw[vI,h]
 refine iq (σ:=Jf l (bM (aO l) l.length (DM l) l.length [] 0)) false (fun _=>[(0,.str s),(2,.ref 0 0 0 0),(3,.ref 1 0 0 0),(4,wU l),(13,.bool false),(5,.ref 2 0 0 0)]) (Jf.hp s.length) Jf.mu ?_ (.E l.length 0 (Nat.zero_le _) (by omega) rfl);rintro(⟨f,i,hi,hf,h⟩|⟨g,xs,cs,n,f,i,rfl,rfl,h0,hx,yp,hi,hf,h⟩)
 ·iterate 60 all_goals ((try conv=>whnf);try first|refine zY ?_ (r4 (by assumption))|(with_reducible first|refine zY ?_|refine zN ?_|refine zT ?_|refine br (fun _=> ?_) (fun _=> ?_)|refine⟨rfl,?_⟩)|(refine eI (fun h1 _=> ?_) (fun h1=> ?_))|(refine je (p:=0) (most:=64) (fun h8=> ?_) (fun h8=> ?_))|(refine(Bn hg).go (fun x j h2 h3 _ _=> ?_) (fun er j h2 h3=> ?_))|(refine xI (fun h4=> ?_) (fun h4=> ?_))|(refine eW rfl (by decide) ?_)|(exact absurd ‹64<=0› (by decide)))
  all_goals first
   |exact zW (hR (h.trans (L1 (L3 ‹_›)))) ⟨by simp,by simp⟩ .nil
   |(have hlt:=G8 ‹_›
     obtain⟨q,rfl⟩:=go_succ hlt hf
     first
      |exact j3 (hB (h.trans (L4 hlt ‹_› h8 h2))) h3
      |exact j3 (hB (h.trans (Hf hlt ‹dY (aO l) [59] i=false› h8 h2 ‹dY (aO l) [59] j=false› h4))) (by decide)
      |(refine⟨fun j=>false,_,_,3,Nat.le_refl 3,bh,.refl,?_⟩
        iterate 14 all_goals ((try conv=>whnf);try first|(with_reducible first|refine zY ?_|refine zN ?_|refine zT ?_|refine br (fun _=> ?_) (fun _=> ?_)|refine⟨rfl,?_⟩))
        exact⟨.E q (i+1) (by omega) (by omega) (h.trans (G9 hlt h1)),by dsimp only[Jf.mu];omega,rfl,rfl⟩)
      |(refine⟨fun j=> !(Nat.beq j 0||Nat.beq j 1||Nat.beq j 2||Nat.beq j 4),_,_,5,(by show(3:Nat)<=5;decide),bh,.refl,?_⟩
        iterate 14 all_goals ((try conv=>whnf);try first|(with_reducible first|refine zY ?_|refine zN ?_|refine zT ?_|refine br (fun _=> ?_) (fun _=> ?_)|refine⟨rfl,?_⟩)|(refine au (fP rfl) ?_)|(refine au (L2 5 [] _) ?_))
        first
         |exact⟨.L 0 ([]++[x]) _ _ q _ rfl rfl (by simp) (by intro y hy;rw[List.mem_singleton.1 hy];exact h3) (by simp) (by omega) (by omega) (h.trans (He hlt ‹dY (aO l) [59] i=false› h8 h2 ‹dY (aO l) [59] j=true›)),by dsimp only[Jf.mu];omega,rfl,rfl⟩
         |exact⟨.L 0 ([]++[x]) _ _ q _ rfl rfl (by simp) (by intro y hy;rw[List.mem_singleton.1 hy];exact h3) (by simp) (by omega) (by omega) (h.trans (Hg hlt ‹dY (aO l) [59] i=false› h8 h2 ‹dY (aO l) [59] j=false› (Nat.not_lt.2 h4))),by dsimp only[Jf.mu];omega,rfl,rfl⟩))
 ·have qQ:=Nat.beq_refl g
  have IU:=Nat.beq_refl (g+1);iterate 60 all_goals ((try conv=>whnf);try first|refine zY ?_ (r4 (by first|assumption|(split<;>decide)))|(with_reducible first|refine zY ?_|refine zN ?_|refine zT ?_|refine br (fun _=> ?_) (fun _=> ?_)|refine⟨rfl,?_⟩)|(refine eI (fun h1 _=> ?_) (fun h1=> ?_))|(refine je (p:=xs.length) (most:=64) (fun h8=> ?_) (fun h8=> ?_))|(refine(Bn hg).go (fun x j h2 h3 _ _=> ?_) (fun er j h2 h3=> ?_))|(refine xI (fun h4=> ?_) (fun h4=> ?_))|(refine eu (by simp) rfl (by decide) rfl (by omega) (by omega) ?_))
  all_goals first
   |exact zW (hR (h.trans (L1 (L3 ‹_›)))) ⟨hx,yp⟩ (dH (vs:=xs.map qN) rfl (by simp) (jg dL))
   |(have hlt:=G8 ‹_›
     obtain⟨q,rfl⟩:=go_succ hlt hf
     first
      |exact j3 (hB (h.trans (L4 hlt ‹_› h8 h2))) h3
      |exact j3 (hB (h.trans (Hf hlt ‹dY (aO l) [59] i=false› h8 h2 ‹dY (aO l) [59] j=false› h4))) (by decide)
      |exact j3 (by rw[if_pos hlt];exact hB (h.trans (Oy hlt ‹_› h8))) (by rw[if_pos hlt];decide)
      |(refine⟨fun j=>false,_,_,5,Nat.le_refl 5,bh,.refl,?_⟩
        iterate 14 all_goals ((try conv=>whnf);try first|(with_reducible first|refine zY ?_|refine zN ?_|refine zT ?_|refine br (fun _=> ?_) (fun _=> ?_)|refine⟨rfl,?_⟩)|(refine au (by intro v hv;obtain⟨x,_,rfl⟩:=List.mem_map.1 hv;rfl) ?_))
        exact⟨.L g xs _ _ q (i+1) rfl rfl h0 hx yp (by omega) (by omega) (h.trans (G9 hlt h1)),by dsimp only[Jf.mu];omega,rfl,rfl⟩)
      |(refine⟨fun j=> !(Nat.beq j 0||Nat.beq j 1||Nat.beq j 2||Nat.beq j 4),_,_,5,Nat.le_refl 5,bh,.refl,?_⟩
        iterate 14 all_goals ((try conv=>whnf);try first|(with_reducible first|refine zY ?_|refine zN ?_|refine zT ?_|refine br (fun _=> ?_) (fun _=> ?_)|refine⟨rfl,?_⟩)|(refine au (fP rfl) ?_)|(refine au (L2 5 xs _) ?_))
        first
         |exact⟨.L (g+1) (xs++[x]) _ _ q _ List.map_append.symm List.length_append.symm (by simp) (by simp only[List.mem_append,List.mem_singleton];rintro y (hy|rfl);exact hx y hy;exact h3) (by simp;omega) (by omega) (by omega) (h.trans (He hlt ‹dY (aO l) [59] i=false› h8 h2 ‹dY (aO l) [59] j=true›)),by dsimp only[Jf.mu];omega,rfl,rfl⟩
         |exact⟨.L (g+1) (xs++[x]) _ _ q _ List.map_append.symm List.length_append.symm (by simp) (by simp only[List.mem_append,List.mem_singleton];rintro y (hy|rfl);exact hx y hy;exact h3) (by simp;omega) (by omega) (by omega) (h.trans (Hg hlt ‹dY (aO l) [59] i=false› h8 h2 ‹dY (aO l) [59] j=false› (Nat.not_lt.2 h4))),by dsimp only[Jf.mu];omega,rfl,rfl⟩))
end
end
end Go.Proofs.YtegmnocpkgpgeaaGreatDoor
namespace Ab
open Go
inductive ru(A:Heap):List SV->List SV->Prop
 |nil:ru A [] []
 |cons {v v':SV} {l l':List SV} (h:bA A v v') (r:ru A l l'):ru A (v::l) (v'::l')
 |fn {f:Fn} {b b' l l':List SV} (h:fI A b b') (r:ru A l l'):ru A (.func f [] b::l) (.func f [] b'::l')
theorem ru.len{A:Heap}{l l':List SV}(h:ru A l l'):l.length=l'.length:=by induction h<;>simp_all
theorem ru.at_{c:Cx}{h:Heap}{w:World}(S:Nat->Bool)(hr:bT c h w){l l':List SV}(hh:ru ⟨h.cI,kL S h.l⟩ l l'): ∀ {i:Nat} {v:SV},l'[i]? =some v-> ∃u,l[i]? =some u/\ ∀ {x:Value},VR c h w u x->VP (kC S c h).Im w v x:=by
 induction hh with
 |nil=>intro i v hv;simp at hv
 |cons hd r ih=>
  intro i v hv;cases i with
  |zero=>cases hv;exact⟨_,rfl,fun hx=>hd.kC S hr hx⟩
  |succ i=>exact ih hv
 |fn hb r ih=>
  intro i v hv;cases i with
  |zero=>
   cases hv
   refine⟨_,rfl,fun hx=> ?_⟩;obtain⟨a',b',rfl,h1,h2,h3,h4⟩:=hx.nv;refine .func _ _ _ _ _ h1 (h2.trans hb.len) (fun i v x a b=>by simp at a) fun i v x a b=> ?_
   obtain⟨u,hu,huv⟩:=hb.at_ a;exact huv.kC S hr (h4 i u x hu b)
  |succ i=>exact ih hv
theorem L6{A:Heap}{t:Nat}{v v1:SV}{e e1:Env}(hv:bA A v v1)(h:wX A e e1):wX A ((t,v)::e) ((t,v1)::e1):=fun s=>by
 unfold Env.get;cases Nat.beq t s
 ·exact h s
 ·exact .inr hv
theorem qF{A:Heap}{t:Nat}{v:SV}{e e1:Env}(h:wX A e e1):wX A ((t,v)::e) ((t,v)::e1):=fun s=>by
 unfold Env.get;cases Nat.beq t s
 ·exact h s
 ·exact .inl rfl
theorem aj.L7{P:Program}{f:FuncId}{args args':List SV}{h:Heap}{v:SV}{R:bu->Heap->Prop}(hp:aj P f args' v)(S:Nat->Bool)(hh:ru ⟨h.cI,kL S h.l⟩ args args')(hv:iE v)
  (hR:R (.ret v) h):aC P f args h R:=by
 refine⟨fun c w xs hr hs Cr=> ?_⟩;have zh:bT (kC S c h) ⟨0,[]⟩ w:=⟨(fun i o ho=>by cases ho),(fun i o ho=>by cases ho),(fun i j o p ho=>by cases ho),(fun i o ho=>by cases ho),(hr.kC S).im,(hr.kC S).dj⟩;refine(hp.2.calls (kC S c h) w xs zh (hs.trans hh.len) fun i v x hi hx=> ?_).mono fun en w' hpost=> ?_
 ·obtain⟨u,hu,huv⟩:=hh.at_ S hr hi
  exact .pure (huv (Cr i u x hu hx))
 ·obtain⟨c',h',r,⟨v',rfl,lQ⟩,hr',hx',x,rfl,mQ⟩:=hpost
  have hfr: ∀b,b<w.heap.size->w'.heap[b]? =w.heap[b]? :=fun b hb=>hx'.frame b hb fun i o ho=>by cases ho
  have kA:Ext c h w c h w':=⟨hx'.os,hx'.tape,hx'.output,hx'.size,fun b hb _=>hfr b hb,hx'.shape,fun b hb=>hb,fun b hb=> .inl hb,Nat.le_refl _,
   fun i o _ ho=>⟨o,ho,Nat.le_refl _,rfl,fun _=>rfl⟩,fun i o ho=> .inr ⟨o,ho,rfl⟩⟩
  have Pt:=lQ.vp hr' (Im:=fun _=>True) (fun _ _=>trivial) (fun _ _ _=>trivial) mQ
  exact⟨c,h,.ret v,hR,⟨hr.lt,fun i o ho=>(hr.obj i o ho).mono hr kA (hfr _ (hr.obj i o ho).lt),hr.inj,hr.apart,fun b hb=>Nat.lt_of_lt_of_le (hr.im b hb) hx'.size,hr.nj kA⟩,kA,x,rfl,
   .pure (hv.vp (c:=c) (h:=h) (w:=w') (.pure (hv.vp (c:=⟨c.β,fun _=>True⟩) (h:=h) (.pure Pt) c.Im w')) c.Im w')⟩
end Ab
