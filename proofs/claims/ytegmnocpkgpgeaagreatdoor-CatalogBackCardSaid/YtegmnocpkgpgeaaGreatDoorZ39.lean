/- Parts of the proof of PCatalogBack, one behind the other, with short names. -/
import Derived.Test.YtegmnocpkgpgeaaGreatDoorZ38
import Derived.Test.YtegmnocpkgpgeaaGreatDoorZ26
set_option linter.unusedVariables false
set_option linter.unusedSimpArgs false
namespace Go.Proofs.YtegmnocpkgpgeaaGreatDoor
open Ab Go.RowKit
set_option maxRecDepth 100000
set_option maxHeartbeats 8000000
attribute [local irreducible] aS bH
section
theorem qB(n:Nat)(xs:List fH)(c:fH): ∀v∈xs.map gQ++[gQ c],SV.lt 8 n v=true:=by
 intro v hv;rcases List.mem_append.1 hv with h|h
 ·obtain⟨x,_,rfl⟩:=List.mem_map.1 h
  rfl
 ·obtain rfl:=List.mem_singleton.1 h
  rfl
def s5:By:=[([105,110,116],2),([116,101,120,116],3),([98,111,111,108],1)]
theorem dI(t:List UInt8):kindOf t=find? s5 t:=by unfold kindOf s5;simp only[find?]
theorem qC{t:List UInt8}{k:Int}(h:find? s5 t=some k):k=1\/k=2\/k=3:=by
 unfold s5 at h;simp only[find?]at h
 repeat' split at h
 all_goals first|(cases h;omega)|cases h
theorem qd{n:Nat}{L:List (Nat×ai)}{R:bu->Heap->Prop}(hR:R (.ret (.cW n 0)) ⟨n+1,(n,.map (Fo 0 s5) 3)::L⟩):aC Tryz.prog 119 [] ⟨n,L⟩ R:=KC.call mixed rfl (by
 have hb:=Nat.beq_refl n;iterate 20 all_goals ((try conv=>whnf);try first|(with_reducible first|refine zY ?_|refine zN ?_|refine zT ?_|refine br (fun _=> ?_) (fun _=> ?_)|refine⟨rfl,?_⟩))
 exact hR)
section
attribute [local irreducible] nD
variable {l:List TP} {m e:Nat} {G:List UInt8->Prop}
inductive M3(l:List TP)(G:List UInt8->Prop)(w:List UInt8)(i0:Nat)(r:bB Sm) where
 |E (i:Nat) (hi:i<=l.length) (h1:i0<=i) (h:r=(fD (aO l) l.length (kX bC) 12 [] i).then fun aq i4=>fE (aO l) l.length (kX bC) w aq i4)
 |L (b:Bool) (g:Nat) (xs:List fH) (cs:List SV) (n f i:Nat) (hcs:cs=xs.map gQ) (hn:n=xs.length) (hf:xs.length+f=12) (h0:0<xs.length) (hg: ∀c∈xs,VK G c) (hi:i<=l.length) (h1:i0<=i) (h:r=(fD (aO l) l.length (kX bC) f xs i).then fun aq i4=>fE (aO l) l.length (kX bC) w aq i4)
@[reducible] def M3.env {n:List UInt8} {i0:Nat} {r:bB Sm}:M3 l G n i0 r->Env
  |_=>[(0,.ref 0 0 0 0),(2,.ref 1 0 0 0),(3,.ref 3 0 0 0)]
@[reducible] def M3.hp {w:List UInt8} {i0:Nat} {r:bB Sm} (m:Nat):M3 l G w i0 r->Heap
  | .E i .. =>⟨5,[(3,BA (uj 5 w [] .af .af false .af .af .af .af .af .af 0 .af)),(1,BA (uj 0 [] [] .af .af false .af .af .af .af .af .af 0 .af)),(0,gv l i m 0)]⟩
  | .L false g _ cs n _ i .. =>⟨10,[(8,.vec g 3 cs ⟨true,some 76⟩),(3,BA (uj 5 w [] (.sl 8 g 3 0 n none) .af false .af .af .af .af .af .af 0 .af)),(1,BA (uj 0 [] [] .af .af false .af .af .af .af .af .af 0 .af)),(0,gv l i m 0)]⟩
  | .L true g _ cs n _ i .. =>⟨10,[(9,.vec g 3 cs ⟨true,some 76⟩),(3,BA (uj 5 w [] (.sl 9 g 3 0 n none) .af false .af .af .af .af .af .af 0 .af)),(1,BA (uj 0 [] [] .af .af false .af .af .af .af .af .af 0 .af)),(0,gv l i m 0)]⟩
def M3.mu{n:List UInt8}{i0:Nat}{r:bB Sm}:M3 l G n i0 r->Nat
 | .E .. =>13
 | .L _ _ _ _ _ f .. =>f
theorem lC{T:ld}{len:Nat}{aX:List UInt8->Bool}{f i j:Nat}{acc:List fH}{c:fH}(hp:(decide (0<acc.length)&&dY T [112,114,105,109,97,114,121] i)=false)(hc:ey T aX i= .ok c j)(hm:dY T [44] j=true):
  fD T len aX (f+1) acc i=fD T len aX f (acc++[c]) (j+1):=by
 rw[fD,hp,if_neg (by decide),hc];show(aM T [44] j).then _=_;rw[aM,hm];rfl
theorem Ly(hl:ig l G):SN l m G 103 (ua (aO l) l.length (kX bC)):=jd fJ fun i0 Tl=>Q2.call mixed rfl (by
 have qV:=hl.len;have cn:=gj (m:=m) (e:=0) hl;have hN:=xD (m:=m) (e:=0) hl 4 (by decide)
 have Bz: ∀ {j},((l.getD j bG).1.k !=1)=false->j<l.length/\j<9223372036854775807:=fun h=>by
  have:=ie (l:=l) (k:=1) (beq_iff_eq.2 (bne_eq_false_iff_eq.1 h)) (by decide);omega
 have eq1: ∀ {j},((l.getD j bG).1.k !=1)=false->((l.getD j bG).1.k=1)=True:=fun h=>eq_true (bne_eq_false_iff_eq.1 h)
 have ne1: ∀ {j},((l.getD j bG).1.k !=1)=true->((l.getD j bG).1.k=1)=False:=fun h=>eq_false (bne_iff_ne.1 h)
 iterate 40 all_goals ((try conv=>whnf);try first|(with_reducible first|refine zY ?_|refine zN ?_|refine zT ?_|refine br (fun _=> ?_) (fun _=> ?_)|refine⟨rfl,?_⟩)|(refine cn.go (fun x j _ _ _ _=> ?_) (fun er j _ _=> ?_))|(refine dU (fun _ _=> ?_) (fun _=> ?_))|(exact bW (by simp only[*,ua,aM,bB.then,↓reduceIte,Bool.false_eq_true])))
 rename_i hx _ _ _ _;refine zy (σ:=M3 l G x i0 (ua (aO l) l.length (kX bC) i0)) M3.env (M3.hp m) M3.mu (fun _=>10) (fun s=>match s with| .E .. =>(by show 5<=10;decide)| .L false .. =>Nat.le_refl 10| .L true .. =>Nat.le_refl 10) ?_ (.E (j+1) (by omega) (by omega) (by simp only[*,ua,aM,bB.then,↓reduceIte]));clear Tl;rintro(⟨i,hi,h1,h⟩|⟨b,g,xs,cs,n,f,i,rfl,rfl,hf,h0,hg,hi,h1,h⟩)
 ·iterate 60 all_goals ((try conv=>whnf);try first|(with_reducible first|refine zY ?_|refine zN ?_|refine zT ?_|refine br (fun _=> ?_) (fun _=> ?_)|refine⟨rfl,?_⟩)|(refine je (p:=0) (fun _=> ?_) (fun _=> ?_))|(refine cn.go (fun x j _ _ _ _=> ?_) (fun er j _ _=> ?_))|(refine j9 ?_)|(refine qd ?_)|(refine lZ (fun op p _=> ?_) (fun _=> ?_))|(refine gP ?_)|(refine eI (fun _ _=> ?_) (fun _=> ?_) (hz:=by first|with_reducible rfl|exact bf (Bz (by assumption)).2))|(refine dU (fun _ _=> ?_) (fun _=> ?_) (hz:=by first|with_reducible rfl|exact bf (Bz (by assumption)).2))|(refine eW rfl (by decide) ?_)|(exact absurd ‹12<=0› (by decide))|(exact bW (h.trans (by simp only[fD,ey,dI,fE,aM,bB.then,aO, *,List.length_nil,Nat.lt_irrefl,decide_false,decide_true,Bool.false_and,Bool.true_and,Bool.false_eq_true,ite_self,↓reduceIte]))))
  all_goals first
   |(refine⟨fun j=> !(Nat.beq j 0||Nat.beq j 1||Nat.beq j 3||Nat.beq j 9),_,_,bh,.refl,?_⟩
     iterate 14 all_goals ((try conv=>whnf);try first|(with_reducible first|refine zY ?_|refine zN ?_|refine zT ?_|refine br (fun _=> ?_) (fun _=> ?_)|refine⟨rfl,?_⟩)|(refine au (fP rfl) ?_)|(refine au (qB 10 [] ⟨_,_,true⟩) ?_))
     exact⟨.L true 0 [⟨_,_,true⟩] _ _ 11 _ rfl rfl rfl (by simp) (by intro c hc;rw[List.mem_singleton.1 hc];exact⟨by assumption,qC (by assumption)⟩) (by omega) (by omega) (h.trans (congrArg (fun r=>bB.then r _) (lC rfl (by simp only[ey,dI,aM,bB.then,aO, *,Bool.false_eq_true,ite_self,↓reduceIte]<;>rfl) (by assumption)))),by show 11<13;decide,rfl,rfl⟩)
   |(refine⟨fun j=> !(Nat.beq j 0||Nat.beq j 1||Nat.beq j 3||Nat.beq j 8),_,_,bh,.refl,?_⟩
     iterate 14 all_goals ((try conv=>whnf);try first|(with_reducible first|refine zY ?_|refine zN ?_|refine zT ?_|refine br (fun _=> ?_) (fun _=> ?_)|refine⟨rfl,?_⟩)|(refine au (fP rfl) ?_)|(refine au (qB 10 [] ⟨_,_,false⟩) ?_))
     exact⟨.L false 0 [⟨_,_,false⟩] _ _ 11 _ rfl rfl rfl (by simp) (by intro c hc;rw[List.mem_singleton.1 hc];exact⟨by assumption,qC (by assumption)⟩) (by omega) (by omega) (h.trans (congrArg (fun r=>bB.then r _) (lC rfl (by simp only[ey,dI,aM,bB.then,aO, *,Bool.false_eq_true,ite_self,↓reduceIte]<;>rfl) (by assumption)))),by show 11<13;decide,rfl,rfl⟩)
 ·have hd:decide ((0:Int)<(xs.length:Int))=true:=decide_eq_true (by omega)
  have qQ:=Nat.beq_refl g;have IU:=Nat.beq_refl (g+1);rcases f with _|f<;>cases b
  ·iterate 60 all_goals ((try conv=>whnf);try first|(with_reducible first|refine zY ?_|refine zN ?_|refine zT ?_|refine br (fun _=> ?_) (fun _=> ?_)|refine⟨rfl,?_⟩)|(refine hN.go (fun x j _ _ _ _=> ?_) (fun er j _ _=> ?_))|(refine je (p:=xs.length) (fun _=> ?_) (fun _=> ?_))|(refine cn.go (fun x j _ _ _ _=> ?_) (fun er j _ _=> ?_))|(refine j9 ?_)|(refine qd ?_)|(refine lZ (fun op p _=> ?_) (fun _=> ?_))|(refine gP ?_)|(refine eI (fun _ _=> ?_) (fun _=> ?_) (hz:=by first|with_reducible rfl|exact bf (Bz (by assumption)).2))|(refine dU (fun _ _=> ?_) (fun _=> ?_) (hz:=by first|with_reducible rfl|exact bf (Bz (by assumption)).2))|(exact absurd ‹xs.length<12› (by omega))|(exact bW (h.trans (by simp only[fD,ey,dI,fE,aM,bB.then,aO, *,List.length_nil,Nat.lt_irrefl,decide_false,decide_true,Bool.false_and,Bool.true_and,Bool.false_eq_true,ite_self,↓reduceIte]))))
   all_goals exact bJ (h.trans (by simp only[fD,ey,dI,fE,aM,bB.then,aO, *,List.length_nil,Nat.lt_irrefl,decide_false,decide_true,Bool.false_and,Bool.true_and,Bool.and_false,Bool.false_eq_true,ite_self,↓reduceIte]<;>rfl)) (.table hx ⟨hg,h0,by omega⟩ (by assumption)) (fQ {kind:=5,name:=_,aq:=xs,key:=_} (dH (vs:=xs.map gQ) rfl (by simp) (jg qz)) (.lit (bP _ _)) .nil .nil .nil .nil .nil .nil .nil .nil) (dL _)
  ·iterate 60 all_goals ((try conv=>whnf);try first|(with_reducible first|refine zY ?_|refine zN ?_|refine zT ?_|refine br (fun _=> ?_) (fun _=> ?_)|refine⟨rfl,?_⟩)|(refine hN.go (fun x j _ _ _ _=> ?_) (fun er j _ _=> ?_))|(refine je (p:=xs.length) (fun _=> ?_) (fun _=> ?_))|(refine cn.go (fun x j _ _ _ _=> ?_) (fun er j _ _=> ?_))|(refine j9 ?_)|(refine qd ?_)|(refine lZ (fun op p _=> ?_) (fun _=> ?_))|(refine gP ?_)|(refine eI (fun _ _=> ?_) (fun _=> ?_) (hz:=by first|with_reducible rfl|exact bf (Bz (by assumption)).2))|(refine dU (fun _ _=> ?_) (fun _=> ?_) (hz:=by first|with_reducible rfl|exact bf (Bz (by assumption)).2))|(exact absurd ‹xs.length<12› (by omega))|(exact bW (h.trans (by simp only[fD,ey,dI,fE,aM,bB.then,aO, *,List.length_nil,Nat.lt_irrefl,decide_false,decide_true,Bool.false_and,Bool.true_and,Bool.false_eq_true,ite_self,↓reduceIte]))))
   all_goals exact bJ (h.trans (by simp only[fD,ey,dI,fE,aM,bB.then,aO, *,List.length_nil,Nat.lt_irrefl,decide_false,decide_true,Bool.false_and,Bool.true_and,Bool.and_false,Bool.false_eq_true,ite_self,↓reduceIte]<;>rfl)) (.table hx ⟨hg,h0,by omega⟩ (by assumption)) (fQ {kind:=5,name:=_,aq:=xs,key:=_} (dH (vs:=xs.map gQ) rfl (by simp) (jg qz)) (.lit (bP _ _)) .nil .nil .nil .nil .nil .nil .nil .nil) (dL _)
  ·iterate 60 all_goals ((try conv=>whnf);try first|(with_reducible first|refine zY ?_|refine zN ?_|refine zT ?_|refine br (fun _=> ?_) (fun _=> ?_)|refine⟨rfl,?_⟩)|(refine hN.go (fun x j _ _ _ _=> ?_) (fun er j _ _=> ?_))|(refine je (p:=xs.length) (fun _=> ?_) (fun _=> ?_))|(refine cn.go (fun x j _ _ _ _=> ?_) (fun er j _ _=> ?_))|(refine j9 ?_)|(refine qd ?_)|(refine lZ (fun op p _=> ?_) (fun _=> ?_))|(refine gP ?_)|(refine eI (fun _ _=> ?_) (fun _=> ?_) (hz:=by first|with_reducible rfl|exact bf (Bz (by assumption)).2))|(refine dU (fun _ _=> ?_) (fun _=> ?_) (hz:=by first|with_reducible rfl|exact bf (Bz (by assumption)).2))|(exact absurd ‹12<=xs.length› (by omega))|(refine eu (by simp) rfl (by decide) rfl (by omega) (by omega) ?_)|(exact bW (h.trans (by simp only[fD,ey,dI,fE,aM,bB.then,aO, *,List.length_nil,Nat.lt_irrefl,decide_false,decide_true,Bool.false_and,Bool.true_and,Bool.false_eq_true,ite_self,↓reduceIte]))))
   all_goals first
    |exact bJ (h.trans (by simp only[fD,ey,dI,fE,aM,bB.then,aO, *,List.length_nil,Nat.lt_irrefl,decide_false,decide_true,Bool.false_and,Bool.true_and,Bool.and_false,Bool.false_eq_true,ite_self,↓reduceIte]<;>rfl)) (.table hx ⟨hg,h0,by omega⟩ (by assumption)) (fQ {kind:=5,name:=_,aq:=xs,key:=_} (dH (vs:=xs.map gQ) rfl (by simp) (jg qz)) (.lit (bP _ _)) .nil .nil .nil .nil .nil .nil .nil .nil) (dL _)
    |(refine⟨fun j=> !(Nat.beq j 0||Nat.beq j 1||Nat.beq j 3||Nat.beq j 8),_,_,bh,.refl,?_⟩
      iterate 14 all_goals ((try conv=>whnf);try first|(with_reducible first|refine zY ?_|refine zN ?_|refine zT ?_|refine br (fun _=> ?_) (fun _=> ?_)|refine⟨rfl,?_⟩)|(refine au (fP rfl) ?_)|(refine au (qB 10 xs ⟨_,_,true⟩) ?_))
      exact⟨.L false (g+1) (xs++[⟨_,_,true⟩]) _ _ f _ List.map_append.symm List.length_append.symm (by simp;omega) (by simp) (by simp only[List.mem_append,List.mem_singleton];rintro c (hc|rfl);exact hg c hc;exact⟨by assumption,qC (by assumption)⟩) (by omega) (by omega) (h.trans (congrArg (fun r=>bB.then r _) (lC (by simp only[*,Bool.and_false]) (by simp only[ey,dI,aM,bB.then,aO, *,Bool.false_eq_true,ite_self,↓reduceIte]<;>rfl) (by assumption)))),Nat.lt_succ_self _,rfl,rfl⟩)
    |(refine⟨fun j=> !(Nat.beq j 0||Nat.beq j 1||Nat.beq j 3||Nat.beq j 8),_,_,bh,.refl,?_⟩
      iterate 14 all_goals ((try conv=>whnf);try first|(with_reducible first|refine zY ?_|refine zN ?_|refine zT ?_|refine br (fun _=> ?_) (fun _=> ?_)|refine⟨rfl,?_⟩)|(refine au (fP rfl) ?_)|(refine au (qB 10 xs ⟨_,_,false⟩) ?_))
      exact⟨.L false (g+1) (xs++[⟨_,_,false⟩]) _ _ f _ List.map_append.symm List.length_append.symm (by simp;omega) (by simp) (by simp only[List.mem_append,List.mem_singleton];rintro c (hc|rfl);exact hg c hc;exact⟨by assumption,qC (by assumption)⟩) (by omega) (by omega) (h.trans (congrArg (fun r=>bB.then r _) (lC (by simp only[*,Bool.and_false]) (by simp only[ey,dI,aM,bB.then,aO, *,Bool.false_eq_true,ite_self,↓reduceIte]<;>rfl) (by assumption)))),Nat.lt_succ_self _,rfl,rfl⟩)
  ·iterate 60 all_goals ((try conv=>whnf);try first|(with_reducible first|refine zY ?_|refine zN ?_|refine zT ?_|refine br (fun _=> ?_) (fun _=> ?_)|refine⟨rfl,?_⟩)|(refine hN.go (fun x j _ _ _ _=> ?_) (fun er j _ _=> ?_))|(refine je (p:=xs.length) (fun _=> ?_) (fun _=> ?_))|(refine cn.go (fun x j _ _ _ _=> ?_) (fun er j _ _=> ?_))|(refine j9 ?_)|(refine qd ?_)|(refine lZ (fun op p _=> ?_) (fun _=> ?_))|(refine gP ?_)|(refine eI (fun _ _=> ?_) (fun _=> ?_) (hz:=by first|with_reducible rfl|exact bf (Bz (by assumption)).2))|(refine dU (fun _ _=> ?_) (fun _=> ?_) (hz:=by first|with_reducible rfl|exact bf (Bz (by assumption)).2))|(exact absurd ‹12<=xs.length› (by omega))|(refine eu (by simp) rfl (by decide) rfl (by omega) (by omega) ?_)|(exact bW (h.trans (by simp only[fD,ey,dI,fE,aM,bB.then,aO, *,List.length_nil,Nat.lt_irrefl,decide_false,decide_true,Bool.false_and,Bool.true_and,Bool.false_eq_true,ite_self,↓reduceIte]))))
   all_goals first
    |exact bJ (h.trans (by simp only[fD,ey,dI,fE,aM,bB.then,aO, *,List.length_nil,Nat.lt_irrefl,decide_false,decide_true,Bool.false_and,Bool.true_and,Bool.and_false,Bool.false_eq_true,ite_self,↓reduceIte]<;>rfl)) (.table hx ⟨hg,h0,by omega⟩ (by assumption)) (fQ {kind:=5,name:=_,aq:=xs,key:=_} (dH (vs:=xs.map gQ) rfl (by simp) (jg qz)) (.lit (bP _ _)) .nil .nil .nil .nil .nil .nil .nil .nil) (dL _)
    |(refine⟨fun j=> !(Nat.beq j 0||Nat.beq j 1||Nat.beq j 3||Nat.beq j 9),_,_,bh,.refl,?_⟩
      iterate 14 all_goals ((try conv=>whnf);try first|(with_reducible first|refine zY ?_|refine zN ?_|refine zT ?_|refine br (fun _=> ?_) (fun _=> ?_)|refine⟨rfl,?_⟩)|(refine au (fP rfl) ?_)|(refine au (qB 10 xs ⟨_,_,true⟩) ?_))
      exact⟨.L true (g+1) (xs++[⟨_,_,true⟩]) _ _ f _ List.map_append.symm List.length_append.symm (by simp;omega) (by simp) (by simp only[List.mem_append,List.mem_singleton];rintro c (hc|rfl);exact hg c hc;exact⟨by assumption,qC (by assumption)⟩) (by omega) (by omega) (h.trans (congrArg (fun r=>bB.then r _) (lC (by simp only[*,Bool.and_false]) (by simp only[ey,dI,aM,bB.then,aO, *,Bool.false_eq_true,ite_self,↓reduceIte]<;>rfl) (by assumption)))),Nat.lt_succ_self _,rfl,rfl⟩)
    |(refine⟨fun j=> !(Nat.beq j 0||Nat.beq j 1||Nat.beq j 3||Nat.beq j 9),_,_,bh,.refl,?_⟩
      iterate 14 all_goals ((try conv=>whnf);try first|(with_reducible first|refine zY ?_|refine zN ?_|refine zT ?_|refine br (fun _=> ?_) (fun _=> ?_)|refine⟨rfl,?_⟩)|(refine au (fP rfl) ?_)|(refine au (qB 10 xs ⟨_,_,false⟩) ?_))
      exact⟨.L true (g+1) (xs++[⟨_,_,false⟩]) _ _ f _ List.map_append.symm List.length_append.symm (by simp;omega) (by simp) (by simp only[List.mem_append,List.mem_singleton];rintro c (hc|rfl);exact hg c hc;exact⟨by assumption,qC (by assumption)⟩) (by omega) (by omega) (h.trans (congrArg (fun r=>bB.then r _) (lC (by simp only[*,Bool.and_false]) (by simp only[ey,dI,aM,bB.then,aO, *,Bool.false_eq_true,ite_self,↓reduceIte]<;>rfl) (by assumption)))),Nat.lt_succ_self _,rfl,rfl⟩))
end
end
end Go.Proofs.YtegmnocpkgpgeaaGreatDoor
namespace Ab
open Go
def PY(ks:List Nat)(n:Nat)(Q:bS->Env->Heap->Prop)(I:Env->Heap->Prop):bS->Env->Heap->Prop
 | .normal,e,h=> ∃(S:Nat->Bool) (e1:Env) (l1:List (Nat×ai)),wX ⟨h.cI,kL S h.l⟩ e e1/\k9 ⟨h.cI,kL S h.l⟩ (cE S h.l) l1/\CG ks n e1 ⟨h.cI,l1⟩ I
 | .exit i,e,h=> ∃(S:Nat->Bool) (e1:Env) (l1:List (Nat×ai)),wX ⟨h.cI,kL S h.l⟩ e e1/\k9 ⟨h.cI,kL S h.l⟩ (cE S h.l) l1/\Q (.exit i) e1 ⟨h.cI,l1⟩
 |x,e,h=>Q x e h
theorem Lz{P:Program}{b:bK}{Q:bS->Env->Heap->Prop}(J:Nat->Env->Heap->Prop)
  (hJ: ∀m e h,J m e h-> ∃N K,h.cI<=N/\(∀ e' h',K e' h'-> ∃m',m'<m/\J m' e' h')/\D9 P b (PY (Env.keys e) N Q K) e h){m:Nat}{e:Env}{h:Heap}(h0:J m e h):dR P b Q e h:=by
 refine⟨fun n code mc me hc c w a hr he hn=> ?_⟩
 let I:Nat->Act->World->Prop:=fun m' a' w'=> ∃c' e' h',J m' e' h'/\bT c' h' w'/\Ext c h w c' h' w'/\ER c' h' w' e' a'.tmps/\a'.tmps.size=n/\a'.defers=a.defers
 have eF: ∀a' w',(∃ m',I m' a' w')-> ∃m',I m' a' w'/\ ∀k6,I k6 a' w'->m'<=k6:=by
  intro a' w' ⟨m',hm'⟩;refine Classical.byContradiction fun hno=> ?_
  have: ∀k,∀k6,k6<=k-> ¬I k6 a' w':=by
   intro k
   induction k with
   |zero=>intro k6 hk hI;exact hno ⟨k6,hI,fun m3 _=>by omega⟩
   |succ k ih=>
    intro k6 hk hI;refine hno ⟨k6,hI,fun m3 h3=> ?_⟩;rcases Nat.lt_or_ge k m3 with h|h
    ·omega
    ·exact absurd h3 (ih m3 h)
  exact this m' m' (Nat.le_refl _) hm'
 classical
 let μ:Act->World->Nat:=fun a' w'=>if hh: ∃m',I m' a' w' then Classical.choose (eF a' w' hh)else 0
 have Gt: ∀a' w' m',I m' a' w'->I (μ a' w') a' w'/\μ a' w'<=m':=by
  intro a' w' m' hm';have hh: ∃m',I m' a' w':=⟨m',hm'⟩;have hs:=Classical.choose_spec (eF a' w' hh);have e:μ a' w'=Classical.choose (eF a' w' hh):=by simp only[μ];rw[dif_pos hh]
  rw[e];exact⟨hs.1,hs.2 m' hm'⟩
 refine wp_loop (fun a' w'=> ∃m',I m' a' w') μ ⟨m,c,e,h,h0,hr,.refl,he,hn,rfl⟩ fun a1 w1 hI=> ?_
 obtain⟨m1,Nq⟩:=hI;obtain⟨⟨c1,e1,h1,hj,og,hx1,EG,wB,hd1⟩,_⟩:=Gt a1 w1 m1 Nq;obtain⟨N,K,hN,hK,EU⟩:=hJ _ e1 h1 hj;have hb:=iN (n:=n) mc code b _ e1 h1 me hc EU c1 w1 a1 og EG wB;refine wp_mono hb fun ex a2 w2 hpost=> ?_
 obtain⟨c2,h2,e2,xx,hq,gV,hx2,iL,hn2,iR,hex⟩:=hpost;cases ex with
 |normal=>
  cases xx<;>try exact hex.elim
  obtain⟨S,e4,l4,g1,g2,hq⟩:=hq;obtain⟨NO,NP,NQ⟩:=n5 gV iL g1 g2;obtain⟨e3,h3,Px,Kn,ET,hx3⟩:=nS (ks:=Env.keys e1) (k:=K) hq NO NP (hx2.trans og NQ) hN;obtain⟨m3,hlt,Ie⟩:=hK _ _ Px;simp only[Exit.then];have CI:I m3 a2 w2:=⟨_,e3,h3,Ie,Kn,hx1.trans hr hx3,ET,hn2,iR.trans hd1⟩;exact⟨⟨m3,CI⟩,Nat.lt_of_le_of_lt (Gt a2 w2 m3 CI).2 hlt⟩
 |exit i=>
  cases xx<;>try exact hex.elim
  obtain⟨S,e4,l4,g1,g2,hq⟩:=hq;obtain⟨NO,NP,NQ⟩:=n5 gV iL g1 g2;exact⟨_,_,e4,_,hq,NO,hx1.trans hr (hx2.trans og NQ),NP,hn2,iR.trans hd1,hex⟩
 |goto l=>cases xx<;>exact hex.elim
 |ret=>cases xx<;>first|exact hex.elim|exact⟨c2,h2,e2,_,hq,gV,hx1.trans hr hx2,iL,hn2,iR.trans hd1,hex⟩
 |panic ch=>cases xx<;>first|exact hex.elim|exact⟨c2,h2,e2,_,hq,gV,hx1.trans hr hx2,iL,hn2,iR.trans hd1,hex⟩
 |outgrown=>cases xx<;>exact hex.elim
theorem Fu{P:Program}{b:bK}{Q:bS->Env->Heap->Prop}{σ:Type}(env:σ->Env)(hp:σ->Heap)(μ:σ->Nat)(N:σ->Nat)(hN: ∀s,(hp s).cI<=N s)
  (step: ∀s,D9 P b (PY (Env.keys (env s)) (N s) Q (fun e' h'=> ∃s',μ s'<μ s/\e'=env s'/\h'=hp s')) (env s) (hp s))(s:σ):dR P b Q (env s) (hp s):=
 Lz (fun m e h=> ∃s,μ s=m/\e=env s/\h=hp s) (fun m e h ⟨s,hm,he,hh⟩=>by
  subst hm;subst he;subst hh
  exact⟨N s,_,hN s,fun e' h' ⟨s',hlt,he,hh⟩=>⟨μ s',hlt,s',rfl,he,hh⟩,step s⟩) ⟨s,rfl,rfl,rfl⟩
end Ab
namespace Go.Proofs.YtegmnocpkgpgeaaGreatDoor
open Ab Go.RowKit
set_option maxRecDepth 100000
set_option maxHeartbeats 8000000
attribute [local irreducible] aS bH
section
theorem Oi(items:List MY):p9 (fun v=>BA (uj 1 [] [] .af .af false .af .af (rowOf 11 (items.map PX)) v .af .af (-1) .af)):=qA (pre:=[.int .u8 1,.str [],.str [],.af,.af,.bool false,.af,.af,rowOf 11 (items.map PX)]) (post:=[.int .u8 0,.int .u8 0,.int .i64 0,.str [],.str [],.str [],.int .i64 0,.int .u8 0,.af,.af,.af,.int .i64 (-1),.af]) (dP rfl) (dP rfl)
theorem Oj(n:Nat)(xs:List Src)(c:Src): ∀v∈xs.map JI++[JI c],SV.lt 8 n v=true:=by
 intro v hv;rcases List.mem_append.1 hv with h|h
 ·obtain⟨x,_,rfl⟩:=List.mem_map.1 h
  rfl
 ·obtain rfl:=List.mem_singleton.1 h
  rfl
theorem I0{A:Heap}{i g n:Nat}{cap:Option Nat}{xs:List Src}{sk:Sk}(ho:A.obj i=some (.vec g 11 (xs.map JI) sk))(hn:n=xs.length):bA A (.sl i g 11 0 n cap) (rowOf 11 (xs.map JI)):=
 dH ho (by simp[hn]) fun v hv=>by
  obtain⟨x,_,rfl⟩:=List.mem_map.1 hv;exact Bh x
section
variable {l:List TP} {m e:Nat} {G:List UInt8->Prop}
theorem Yy{p:Nat}(h:((l.getD p bG).1.k !=2)=true):((l.getD p bG).1.k≠2)=True:=eq_true (bne_iff_ne.1 h)
theorem Yz{p:Nat}(h:((l.getD p bG).1.k !=2)=false):((l.getD p bG).1.k≠2)=False:=by rw[bne_eq_false_iff_eq.1 h];simp
theorem SO{n:Nat}(h:decide ((1073741824:Int)<(n:Int))=true):(1073741824<n)=True:=eq_true (by have:=of_decide_eq_true h;omega)
theorem elim{n:Nat}(h:decide ((1073741824:Int)<(n:Int))=false):(1073741824<n)=False:=eq_false (by have:=of_decide_eq_false h;omega)
theorem LA{n:Nat}(h:decide ((1073741824:Int)<(n:Int))=false):IntKind.i64.wrap (n:Int)=(n:Int)/\ -1<=(n:Int)/\(n:Int)<=1073741824:=by
 have:=of_decide_eq_false h;exact⟨CS (by omega) (by omega),by omega,by omega⟩
theorem W0{p:Nat}(h:((l.getD p bG).1.k !=2)=false):p<l.length:=ie (l:=l) (k:=2) (beq_iff_eq.2 (bne_eq_false_iff_eq.1 h)) (by decide)
structure W6(l:List TP)(G:List UInt8->Prop)(items:List MY)(s0:Src)(i0:Nat)(r:bB Sm) where
 g:Nat
 ys:List Src
 cs:List SV
 n:Nat
 f:Nat
 i:Nat
 hcs:cs=(s0::ys).map JI
 hn:n=(s0::ys).length
 hf:ys.length+f=3
 hg: ∀s∈ys,W5 G true s
 hi:i<=l.length
 h1:i0<=i
 h:r=(mG (aO l) l.length (kX bC) (iP l) f (s0::ys) i).then fun xA i5=>Du (aO l) l.length (kX bC) (iP l) items xA i5
@[reducible] def W6.hp {items:List MY} {s0:Src} {i0:Nat} {r:bB Sm} (m:Nat):W6 l G items s0 i0 r->Heap
  |⟨g,_,cs,n,_,i,_,_,_,_,_,_,_⟩=>⟨8,[(7,.vec g 11 cs ⟨true,some 207⟩),(6,.vec 0 11 [JI s0] ⟨false,some 207⟩),(3,BA (uj 1 [] [] .af .af false .af .af (rowOf 11 (items.map PX)) (.sl 7 g 11 0 n none) .af .af (-1) .af)),(2,BA (uj 0 [] [] .af .af false .af .af .af .af .af .af 0 .af)),(1,Ea),(0,gv l i m 0)]⟩
theorem I1(hl:ig l G):SN l m G 99 (qc (aO l) l.length (kX bC) (iP l)):=jd fJ fun i0 Tl=>Vq.call mixed rfl (by
 have qV:=hl.len;have hW:=xE (m:=m) hl;have c0:=zI (m:=m) hl false;have c1:=zI (m:=m) hl true;iterate 90 all_goals ((try conv=>whnf);try first|(with_reducible first|refine zY ?_|refine zN ?_|refine zT ?_|refine br (fun _=> ?_) (fun _=> ?_)|refine⟨rfl,?_⟩)|(refine dU (fun _ _=> ?_) (fun _=> ?_))|(refine lg (Lw hl) (fun xs j _ _ _ _ _ _=> ?_) (fun er j _ _=> ?_))|(refine c0.go (fun x j _ _ _ _=> ?_) (fun er j _ _=> ?_))|(refine eW rfl (by decide) ?_)|(exact bW (by simp only[*,qc,aM,bB.then,↓reduceIte,Bool.false_eq_true])))
 rename_i _ hi1 _ _ hi2 Zw _ _ _ hs0 _ _;refine Fu (σ:=W6 l G xs x i0 (qc (aO l) l.length (kX bC) (iP l) i0)) (fun _=>[(0,.ref 0 0 0 0),(1,.ref 1 0 0 0),(2,.ref 2 0 0 0),(3,.ref 3 0 0 0)]) (W6.hp m) (fun s=>s.f) (fun _=>8) (fun s=>Nat.le_refl 8) ?_ ⟨0,[],_,_,3,j,rfl,rfl,rfl,(by simp),(by omega),(by omega),(by simp only[*,qc,aM,bB.then,↓reduceIte,Bool.false_eq_true])⟩;clear Tl;rintro⟨g,ys,cs,n,f,i,rfl,rfl,hf,hg,hi,h1,h⟩;have qQ:Nat.beq g g=true:=Nat.beq_refl g;iterate 12 all_goals ((try conv=>whnf);try first|(with_reducible first|refine zY ?_|refine zN ?_|refine zT ?_|refine br (fun _=> ?_) (fun _=> ?_)|refine⟨rfl,?_⟩)|(refine eI (fun hq TG=> ?_) (fun hq=> ?_)))
 ·rcases f with _|f
  ·iterate 20 all_goals ((try conv=>whnf);try first|(with_reducible first|refine zY ?_|refine zN ?_|refine zT ?_|refine br (fun _=> ?_) (fun _=> ?_)|refine⟨rfl,?_⟩)|(refine je (p:=ys.length+1) (fun _=> ?_) (fun _=> ?_))|(exact absurd ‹ys.length+1<4› (by omega))|(exact bW (h.trans (by simp only[mG,aM,bB.then, *,Bool.false_eq_true,↓reduceIte]))))
  ·iterate 40 all_goals ((try conv=>whnf);try first|(with_reducible first|refine zY ?_|refine zN ?_|refine zT ?_|refine br (fun _=> ?_) (fun _=> ?_)|refine⟨rfl,?_⟩)|(refine je (p:=ys.length+1) (fun _=> ?_) (fun _=> ?_))|(refine c1.go (fun x j hs hs2 _ _=> ?_) (fun er j _ _=> ?_))|(refine eu (by simp) rfl (by decide) rfl (by simp;omega) (by simp;omega) ?_)|(exact absurd ‹4<=ys.length+1› (by omega))|(exact bW (h.trans (by simp only[mG,aM,bB.then, *,Bool.false_eq_true,↓reduceIte]))))
   refine⟨fun j=>false,_,_,bh,.refl,?_⟩;iterate 14 all_goals ((try conv=>whnf);try first|(with_reducible first|refine zY ?_|refine zN ?_|refine zT ?_|refine br (fun _=> ?_) (fun _=> ?_)|refine⟨rfl,?_⟩)|(refine au (fP rfl) ?_)|(refine au (Oj 8 (_::ys) _) ?_))
   exact⟨⟨g+1,ys++[x],_,_,f,j,(List.map_append (f:=JI) (l₁:=_::ys) (l₂:=[x])).symm,(by simp),(by simp;omega),(by simp only[List.mem_append,List.mem_singleton];rintro y (hy|rfl);exact hg y hy;exact hs2),(by omega),(by omega),h.trans (by rw[mG,if_pos hq,hs];rfl)⟩,Nat.lt_succ_self f,rfl,rfl⟩
 ·have h2:mG (aO l) l.length (kX bC) (iP l) f (x::ys) i= .ok (x::ys) i:=by cases f<;>simp[mG,hq]
  iterate 130 all_goals ((try conv=>whnf);try first|(with_reducible first|refine zY ?_|refine zN ?_|refine zT ?_|refine br (fun _=> ?_) (fun _=> ?_)|refine⟨rfl,?_⟩)|(refine eI (fun _ _=> ?_) (fun _=> ?_))|(refine⟨fun j=>Nat.beq j 7,_,_,bh,.cons (.same _) (.cons ((Oi xs).mW (I0 rfl rfl)) .refl),?_⟩)|(refine hW.go (fun x j _ _ _ _=> ?_) (fun er j _ _=> ?_))|(refine dU (fun _ _=> ?_) (fun _=> ?_))|(refine lg (IV hl (dP rfl) (dP rfl)) (fun xs j _ _ _ _ _ _=> ?_) (fun er j _ _=> ?_))|(refine lg (IS hl (dP rfl) (dP rfl)) (fun xs j _ _ _ _ _ _=> ?_) (fun er j _ _=> ?_))|(refine j9 ?_)|(refine gP ?_)|(exact bW (h.trans (by simp only[h2,Du,VD,Bc,aM,bB.then,aO,Yy,Yz,SO,elim, *,Bool.false_eq_true,↓reduceIte]))))
  all_goals first
   |exact bJ (h.trans (by simp only[h2,Du,VD,Bc,aM,bB.then,aO,Yy,Yz,SO,elim, *,Bool.false_eq_true,↓reduceIte]<;>rfl)) (.select ⟨hi1,hi2,Zw⟩ hs0 hg (by omega) (by assumption) (by first|exact⟨by assumption,by assumption⟩|exact⟨by simp,by simp⟩) (by first|exact⟨by assumption,by assumption⟩|exact⟨by simp,by simp⟩) ⟨by decide,by decide⟩) (fQ {kind:=1,items:=_,xA:=_::_,wh:=_,group:=_,order:=_,limit:= -1} .nil .nil .nil .nil (.lit (bP _ _)) (.lit (bP _ _)) (.lit (p5 _)) (by first|exact .nil|exact .lit (bP _ _)) (by first|exact .nil|exact .lit (bP _ _)) .nil) (dL _)
   |(rw[(LA (by assumption)).1]
     exact bJ (h.trans (by simp only[h2,Du,VD,Bc,aM,bB.then,aO,Yy,Yz,SO,elim, *,Bool.false_eq_true,↓reduceIte]<;>rfl)) (.select ⟨hi1,hi2,Zw⟩ hs0 hg (by omega) (by assumption) (by first|exact⟨by assumption,by assumption⟩|exact⟨by simp,by simp⟩) (by first|exact⟨by assumption,by assumption⟩|exact⟨by simp,by simp⟩) (LA (by assumption)).2) (fQ {kind:=1,items:=_,xA:=_::_,wh:=_,group:=_,order:=_,limit:=_} .nil .nil .nil .nil (.lit (bP _ _)) (.lit (bP _ _)) (.lit (p5 _)) (by first|exact .nil|exact .lit (bP _ _)) (by first|exact .nil|exact .lit (bP _ _)) .nil) (dL _) (h2:=W0 (by assumption))))
end
end
end Go.Proofs.YtegmnocpkgpgeaaGreatDoor
