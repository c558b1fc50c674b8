/- Parts of the proof of PCatalogBack, one behind the other, with short names. -/
import Derived.Test.YtegmnocpkgpgeaaGreatDoorZ32
import Derived.Test.YtegmnocpkgpgeaaGreatDoorZ29
import Derived.Test.YtegmnocpkgpgeaaGreatDoorZ26
set_option linter.unusedVariables false
set_option linter.unusedSimpArgs false
namespace Go.Proofs.YtegmnocpkgpgeaaGreatDoor
open Ab Go.RowKit
set_option maxRecDepth 100000
set_option maxHeartbeats 8000000
def bC:List (List UInt8):=[[97,110,100],[97,115],[97,115,99],[98,101,103,105,110],[98,111,111,108],[98,121],[99,111,109,109,105,116],[99,111,117,110,116],[99,114,101,97,116,101],[100,101,108,101,116,101],[100,101,115,99],[102,97,108,115,101],[102,114,111,109],[103,114,111,117,112],[105,110,100,101,120],[105,110,115,101,114,116],[105,110,116],[105,110,116,111],[105,115],[106,111,105,110],[107,101,121],[108,105,109,105,116],[109,97,120],[109,105,110],[110,111,116],[110,117,108,108],[111,110],[111,114],[111,114,100,101,114],[112,114,105,109,97,114,121],[114,111,108,108,98,97,99,107],[115,97,118,101,112,111,105,110,116],[115,101,108,101,99,116],[115,101,116],[115,117,109],[116,97,98,108,101],[116,101,120,116],[116,111],[116,114,117,101],[117,110,105,113,117,101],[117,112,100,97,116,101],[118,97,108,117,101,115],[119,104,101,114,101]]
def Lf:List (Nat×bI):=[(193,t193),(187,t187)]
theorem N9:jz Tryz.prog Lf:= .cons RZ (.cons KO (.nil))
def VB:Nat:=400
def PS:List SV:=bC.map SV.str
def Sz:bu->Heap->Prop:=fun r h'=> ∃v',r= .ret v'/\bA h' v' (o5 bC)
theorem SA:(lvl Tryz.prog Lf VB).1.call 193 [] ⟨0,[]⟩ Sz=Sz (.ret (.sl 0 0 1 0 43 (some 43))) ⟨1,[(0,.vec 0 1 PS ⟨false,some 9⟩)]⟩:=by kernel_rfl
theorem Oa{n:Nat}{f:FuncId}{R:bu->Heap->Prop}(hp:(lvl Tryz.prog Lf n).1.call f [] ⟨0,[]⟩ R):aC Tryz.prog f [] ⟨0,[]⟩ R:=(qs mixed N9 n).1.call _ _ _ _ hp
theorem SB:Sz (.ret (.sl 0 0 1 0 43 (some 43))) ⟨1,[(0,.vec 0 1 PS ⟨false,some 9⟩)]⟩:=⟨_,rfl,qx (s:=bC) (g:=0) (sk:=⟨false,some 9⟩) rfl rfl⟩
theorem Ba:aj Tryz.prog 193 [] (o5 bC):=aG (fun _ h=>by simp at h) (Oa (SA.symm▸SB))
def Fj:List (List UInt8)->List UInt8->Nat->Int
 | [],_,_=> -1
 |x::r,w,k=>if w==x then k else Fj r w (k+1)
def kX(l:List (List UInt8))(w:List UInt8):Bool:=l.any fun x=>w==x
theorem Lg: ∀(l:List (List UInt8)) (w:List UInt8) (k:Nat),decide (0<=Fj l w k)=kX l w
 | [],_,_=>rfl
 |x::r,w,k=>by
  have ih:=Lg r w (k+1);unfold kX at ih ⊢;rw[Fj,List.any_cons];cases h:(w==x)with
  |true=>rw[if_pos rfl,Bool.true_or];exact decide_eq_true (by omega)
  |false=>rw[if_neg (by decide),Bool.false_or];exact ih
theorem Fk{l:List (List UInt8)}{i:Nat}(h:i<l.length):l.drop i=l.getD i []::l.drop (i+1):=by
 rw[List.drop_eq_getElem_cons h];simp[List.getD,h]
theorem Fl{l:List (List UInt8)}{w:List UInt8}(hl:l.length<=100000):aj Tryz.prog 208 [o5 l,.str w] (.int .i64 (Fj l w 0)):=by
 refine aG (cP (.aW _ _ _) (.str _)) (R5.call mixed rfl ?_);iterate 6 all_goals ((try conv=>whnf);try first|(with_reducible first|refine zY ?_|refine zN ?_|refine zT ?_|refine br (fun _=> ?_) (fun _=> ?_)|refine⟨rfl,?_⟩))
 refine nU (σ:={i:Nat // i<=l.length/\Fj l w 0=Fj (l.drop i) w i}) (fun y=>[(0,o5 l),(1,SV.str w),(4,SV.int IntKind.i64 0),(7,SV.int IntKind.i64 l.length),(8,SV.int IntKind.i64 y.1)])
  (fun _=>⟨0,[]⟩) (fun y=>l.length-y.1) ?_ ⟨0,by omega,rfl⟩
 rintro⟨i,hi,he⟩;dsimp only;have e7:IntKind.i64.wrap ((i:Int)+1)=((i+1:Nat):Int):=bf (by omega);have et:=Int.toNat_natCast i;by_cases hil:i<l.length
 ·have hd:decide ((i:Int)<(l.length:Int))=true:=decide_eq_true (by omega)
  have hb:(decide (0<=(i:Int))&&decide ((i:Int)<(l.length:Int)))=true:=by simp only[Bool.and_eq_true,decide_eq_true_eq];omega
  rw[Fk hil,Fj,<-et]at he;cases hq:(w==l.getD (i:Int).toNat [])with
  |true=>
   rw[hq,if_pos rfl]at he;iterate 24 all_goals ((try conv=>whnf);try first|(with_reducible first|refine zY ?_|refine zN ?_|refine zT ?_|refine br (fun _=> ?_) (fun _=> ?_)|refine⟨rfl,?_⟩))
   exact leaf (by rw[he,et]) (.int _ _)
  |false=>
   rw[hq,if_neg (by decide),et]at he;iterate 24 all_goals ((try conv=>whnf);try first|(with_reducible first|refine zY ?_|refine zN ?_|refine zT ?_|refine br (fun _=> ?_) (fun _=> ?_)|refine⟨rfl,?_⟩))
   exact⟨⟨i+1,hil,he⟩,by dsimp only;omega,by rw[e7],rfl⟩
 ·have hd:decide ((i:Int)<(l.length:Int))=false:=decide_eq_false (by omega)
  iterate 12 all_goals ((try conv=>whnf);try first|(with_reducible first|refine zY ?_|refine zN ?_|refine zT ?_|refine br (fun _=> ?_) (fun _=> ?_)|refine⟨rfl,?_⟩))
  exact leaf (by rw[he,List.drop_of_length_le (by omega)];rfl) (.int _ _)
theorem yP(w:List UInt8):aj Tryz.prog 165 [.str w] (.bool (kX bC w)):=by
 have hi:=Fl (l:=bC) (w:=w) (by decide)
 have hc:aj Tryz.prog 192 [o5 bC,.str w] (.bool (kX bC w)):=by
  refine aG (cP (.aW _ _ _) (.str _)) (RY.call mixed rfl ?_);iterate 8 all_goals ((try conv=>whnf);try first|(with_reducible first|refine zY ?_|refine zN ?_|refine zT ?_|refine br (fun _=> ?_) (fun _=> ?_)|refine⟨rfl,?_⟩|refine aj.call (hi) ?_))
  exact leaf (by rw[Lg]) (.bool _)
 refine aG (di (.str _)) (RK.call mixed rfl ?_);iterate 8 all_goals ((try conv=>whnf);try first|(with_reducible first|refine zY ?_|refine zN ?_|refine zT ?_|refine br (fun _=> ?_) (fun _=> ?_)|refine⟨rfl,?_⟩|refine aj.call (Ba) ?_|refine aj.call (hc) ?_))
 exact leaf rfl (.bool _)
end Go.Proofs.YtegmnocpkgpgeaaGreatDoor
namespace Go.Proofs.YtegmnocpkgpgeaaGreatDoor
open Ab Go.RowKit
set_option maxRecDepth 100000
set_option maxHeartbeats 4000000
attribute [local irreducible] aS bH
section
variable {l:List TP} {m e:Nat}
theorem tZ{s:List UInt8}{i:Nat}(h:dY (aO l) s i=true):i<l.length:=by
 refine Classical.byContradiction fun hn=> ?_
 unfold dY aO at h;rw[AX hn]at h;simp[bG]at h
theorem GJ(hl:l.length<=65536)(s:List UInt8)(i:Nat):fU Tryz.prog 58 [.str s] (gv l i m e) (.ret (.bool (dY (aO l) s i))) (gv l (if dY (aO l) s i then i+1 else i) m e):=by
 refine⟨di (.str _),bE ..,bE ..,.bool _,UP.call mixed rfl ?_⟩;have c:=KZ (l:=l) (m:=m) (e:=e) s i;cases hb:dY (aO l) s i
 ·rw[hb]at c
  iterate 12 all_goals ((try conv=>whnf);try first|(with_reducible first|refine zY ?_|refine zN ?_|refine zT ?_|refine br (fun _=> ?_) (fun _=> ?_)|refine⟨rfl,?_⟩)|(refine c.call rfl ?_))
  exact vi (.lit (.bool _)) rfl
 ·have hi:=tZ hb
  have e7:IntKind.i64.wrap ((i:Int)+1)=((i+1:Nat):Int):=bf (by omega);rw[hb]at c;iterate 12 all_goals ((try conv=>whnf);try first|(with_reducible first|refine zY ?_|refine zN ?_|refine zT ?_|refine br (fun _=> ?_) (fun _=> ?_)|refine⟨rfl,?_⟩)|(refine c.call rfl ?_))
  exact vi (.lit (.bool _)) (by rw[e7];rfl)
theorem vB(hl:l.length<=65536){s:List UInt8}{i:Nat}(h:dY (aO l) s i=true):fU Tryz.prog 58 [.str s] (gv l i m e) (.ret (.bool true)) (gv l (i+1) m e):=by
 have:=GJ (m:=m) (e:=e) hl s i;rw[h]at this;exact this
theorem Bb(hl:l.length<=65536){s:List UInt8}{i:Nat}(h:dY (aO l) s i=false):fU Tryz.prog 58 [.str s] (gv l i m e) (.ret (.bool false)) (gv l i m e):=by
 have:=GJ (m:=m) (e:=e) hl s i;rw[h]at this;exact this
def Zl{α:Type}(r:bB α):Nat:=match r with
 | .ok _ j=>j
 | .bad _ j=>j
theorem IK(hl:l.length<=65536)(s:List UInt8)(i:Nat):fU Tryz.prog 152 [o5 [s]] (gv l i m e)
  (match aM (aO l) s i with| .ok _ _=> .ret (.bn [])| .bad er j=> .eY (mY er (dG l m j))) (gv l (Zl (aM (aO l) s i)) m e):=by
 unfold aM;cases hb:dY (aO l) s i
 ·have cg:=Bb (m:=m) (e:=e) hl hb
  have cw:=lA (l:=l) (m:=m) (e:=e) 240 i;refine⟨di (.aW ..),bE ..,bE ..,cR ..,wT.call mixed rfl ?_⟩;iterate 30 all_goals ((try conv=>whnf);try first|(with_reducible first|refine zY ?_|refine zN ?_|refine zT ?_|refine br (fun _=> ?_) (fun _=> ?_)|refine⟨rfl,?_⟩|refine dh.succ ?_)|(refine cg.call rfl ?_)|(refine cw.eY rfl fun h=> ?_)|with_reducible refine cz 3 ?_)
  exact AW (cR _ _)
 ·have cg:=vB (m:=m) (e:=e) hl hb
  refine⟨di (.aW ..),bE ..,bE ..,.bn (by simp),wT.call mixed rfl ?_⟩;iterate 30 all_goals ((try conv=>whnf);try first|(with_reducible first|refine zY ?_|refine zN ?_|refine zT ?_|refine br (fun _=> ?_) (fun _=> ?_)|refine⟨rfl,?_⟩|refine dh.succ ?_)|(refine cg.call rfl ?_)|with_reducible refine cz 3 ?_)
  exact vi (.lit (.bn (by simp))) rfl
theorem ie{i:Nat}{k:Int}(h:((l.getD i bG).1.k==k)=true)(hk:k≠0):i<l.length:=by
 refine Classical.byContradiction fun hn=> ?_
 rw[AX hn]at h;simp[bG]at h;omega
theorem Lh(hl:l.length<=65536)(i:Nat):fU Tryz.prog 105 [] (gv l i m e)
  (match fC (aO l) (kX bC) i with| .ok s _=> .ret (.str s)| .bad er j=> .eY (mY er (dG l m j))) (gv l (Zl (fC (aO l) (kX bC) i)) m e):=by
 have c:=wZ (l:=l) (m:=m) (e:=e) i;have cw:=lA (l:=l) (m:=m) (e:=e) 240 i;have cr:=yP (l.getD i bG).1.t;unfold fC;cases hk:((l.getD i bG).1.k==1)with
 |false=>
  have hn:((l.getD i bG).1.k !=1)=true:=by unfold bne;rw[hk];rfl
  rw[Bool.false_and,if_neg (by decide)];refine⟨fJ,bE ..,bE ..,cR ..,E0.call mixed rfl ?_⟩;iterate 20 all_goals ((try conv=>whnf);try first|(with_reducible first|refine zY ?_|refine zN ?_|refine zT ?_|refine br (fun _=> ?_) (fun _=> ?_)|refine⟨rfl,?_⟩|refine aj.call (cr) ?_)|(refine c.call rfl ?_)|(refine cw.eY rfl fun h=> ?_))
  exact AW (cR _ _)
 |true=>
  have hn:((l.getD i bG).1.k !=1)=false:=by unfold bne;rw[hk];rfl
  have hi:=ie hk (by decide);have e7:IntKind.i64.wrap ((i:Int)+1)=((i+1:Nat):Int):=bf (by omega);rw[Bool.true_and];cases hr:kX bC (l.getD i bG).1.t with
  |true=>
   rw[hr]at cr;rw[Bool.not_true,if_neg (by decide)];refine⟨fJ,bE ..,bE ..,cR ..,E0.call mixed rfl ?_⟩;iterate 20 all_goals ((try conv=>whnf);try first|(with_reducible first|refine zY ?_|refine zN ?_|refine zT ?_|refine br (fun _=> ?_) (fun _=> ?_)|refine⟨rfl,?_⟩|refine aj.call (cr) ?_)|(refine c.call rfl ?_)|(refine cw.eY rfl fun h=> ?_))
   exact AW (cR _ _)
  |false=>
   rw[hr]at cr;rw[Bool.not_false,if_pos rfl];refine⟨fJ,bE ..,bE ..,.str _,E0.call mixed rfl ?_⟩;iterate 20 all_goals ((try conv=>whnf);try first|(with_reducible first|refine zY ?_|refine zN ?_|refine zT ?_|refine br (fun _=> ?_) (fun _=> ?_)|refine⟨rfl,?_⟩|refine aj.call (cr) ?_)|(refine c.call rfl ?_)|(refine cw.eY rfl fun h=> ?_))
   exact vi (.lit (.str _)) (by rw[e7];rfl)
end
end Go.Proofs.YtegmnocpkgpgeaaGreatDoor
namespace Ab
open Go
theorem eW{ty:TypeId}{sz bytes m:Nat}{v:SV}{sk:Sk}{l:List (Nat×ai)}{k:SV->Heap->Prop}(h1:allOnes [v]=true)(hb:bytes<=140737488355328)
  (hk:k (.sl (m+1) 0 sz 0 1 none) ⟨m+2,(m+1,.vec 0 sz [v] ⟨true,some ty⟩)::(m,.vec 0 sz [v] sk)::l⟩):
  aS ty sz bytes ⟨m+1,(m,.vec 0 sz [v] sk)::l⟩ .af (.sl m 0 sz 0 1 (some 1)) k:=
 lU (iO dD rfl) (by simp) h1 (by simp;exact hb) (by simp) hk
theorem Ob{ty:TypeId}{sz bytes m i g:Nat}{vs:List SV}{v:SV}{sk:Sk}{l:List (Nat×ai)}{k:SV->Heap->Prop}(ho:ak l i=some (.vec g sz vs ⟨true,some ty⟩))(tv:i<m)(h1:allOnes [v]=true)(hlen:(vs.length+1)*bytes<=140737488355328)(hl:vs.length<=1000000)
  (hk:k (.sl i (g+1) sz 0 (vs.length+1) none) ⟨m+1,(m,.vec 0 sz [v] sk)::bt l i (.vec (g+1) sz (vs++[v]) ⟨true,some ty⟩)⟩):
  aS ty sz bytes ⟨m+1,(m,.vec 0 sz [v] sk)::l⟩ (.sl i g sz 0 vs.length none) (.sl m 0 sz 0 1 (some 1)) k:=by
 refine nY (iO dD rfl) (by simp) h1 (by rw[aU (by omega)];exact ho) rfl (by simpa using hlen) (by simp;omega) ?_;rw[cL];unfold bt;rw[if_neg (by omega),kF];exact hk
theorem eu{ty:TypeId}{sz bytes m i g n:Nat}{vs:List SV}{v:SV}{sk:Sk}{l:List (Nat×ai)}{k:SV->Heap->Prop}(hn:n=vs.length)(ho:ak l i=some (.vec g sz vs ⟨true,some ty⟩))(tv:i<m)(h1:allOnes [v]=true)(hlen:(n+1)*bytes<=140737488355328)(hl:n<=1000000)
  (hk:k (.sl i (g+1) sz 0 (n+1) none) ⟨m+1,(m,.vec 0 sz [v] sk)::bt l i (.vec (g+1) sz (vs++[v]) ⟨true,some ty⟩)⟩):
  aS ty sz bytes ⟨m+1,(m,.vec 0 sz [v] sk)::l⟩ (.sl i g sz 0 n none) (.sl m 0 sz 0 1 (some 1)) k:=by
 subst hn;exact Ob ho tv h1 hlen hl hk
section
theorem GK{a b p:Prop}(ha:a)(hb:b)(hp:p):(a/\b)/\p:=⟨⟨ha,hb⟩,hp⟩
theorem aC.tidy{P:Program}{f:FuncId}{args:List SV}{h:Heap}{R:bu->Heap->Prop}
  (hp:aC P f args h fun r h'=> ∃(S:Nat->Bool) (r2:bu) (l1:List (Nat×ai)),(r=r2\/qX ⟨h'.cI,kL S h'.l⟩ r r2)/\k9 ⟨h'.cI,kL S h'.l⟩ (cE S h'.l) l1/\R r2 ⟨h'.cI,l1⟩):aC P f args h R:=by
 refine⟨fun c w xs hr hs hv=>(hp.calls c w xs hr hs hv).mono fun en w' ⟨c',h',r,⟨S,r2,l1,hh,hl,hR⟩,hr',hx',wE⟩=> ?_⟩;obtain⟨q1,_,q3⟩:=n5 (e:=[]) (e1:=[]) (tmps:= #[]) hr' (fun t=> .pure (.undef _)) bh hl;refine⟨Ab.kC S c' h',⟨h'.cI,l1⟩,r2,hR,q1,hx'.trans hr q3,?_⟩;rcases hh with rfl|hh
 ·cases r with
  |ret v=>obtain⟨x,rfl,hx⟩:=wE;exact⟨x,rfl,hx.mono hr' q3⟩
  |eY v=>obtain⟨x,rfl,hx⟩:=wE;exact⟨x,rfl,hx.mono hr' q3⟩
 ·cases hh with
  |ret h=>obtain⟨x,rfl,hx⟩:=wE;exact⟨x,rfl,.pure (h.kC S hr' hx)⟩
  |eY h=>obtain⟨x,rfl,hx⟩:=wE;exact⟨x,rfl,.pure (h.kC S hr' hx)⟩
def Same(L:List (Nat×ai))(k j:Nat):Prop:=k=j/\ ∃o,ak L k=some o
theorem aC.norm{P:Program}{f:FuncId}{m:Nat}{L:List (Nat×ai)}{args:List SV}{R:bu->Heap->Prop}
  (hL: ∀k o,ak L k=some o->k<m/\k8 (Same L) o o)(ha:wV (Same L) args args)
  (hp:aC P f args ⟨m,L⟩ fun r h'=> ∃N' r2 h2,Fr (Same L) m m L N' r h' r2 h2/\R r2 h2):aC P f args ⟨m,L⟩ R:=
 aC.frame (fun k o hk=>⟨(hL k o hk).1,k,o,⟨rfl,o,hk⟩,hk,(hL k o hk).2⟩) (fun k j ⟨_,o,ho⟩=>⟨(hL k o ho).1,o,ho⟩) (fun k k' j h h'=>h.1.trans h'.1.symm) (fun k j j' h h'=>h.1.symm.trans h'.1) ha hp
structure p9(tgt:SV->ai):Prop where
 zx: ∀ {N:Nat->Nat->Prop} {v v':SV},iQ N v v'->k8 N (tgt v) (tgt v')
 mW: ∀ {A:Heap} {v v':SV},bA A v v'->yL A (tgt v) (tgt v')
theorem Li{k:Nat}{a b c o:ai}(h:ak [(2,c),(1,b),(0,a)] k=some o):(k=2/\o=c)\/(k=1/\o=b)\/(k=0/\o=a):=by
 unfold ak at h;split at h
 ·cases h;rename_i hk;exact .inl ⟨hk.symm,rfl⟩
 unfold ak at h;split at h
 ·cases h;rename_i hk;exact .inr (.inl ⟨hk.symm,rfl⟩)
 unfold ak at h;split at h
 ·cases h;rename_i hk;exact .inr (.inr ⟨hk.symm,rfl⟩)
 ·cases h
theorem Lj{m k:Nat}{a b c d o:ai}(h:ak [(m,d),(2,c),(1,b),(0,a)] k=some o):(k=m/\o=d)\/(k=2/\o=c)\/(k=1/\o=b)\/(k=0/\o=a):=by
 unfold ak at h;split at h
 ·cases h;rename_i hk;exact .inl ⟨hk.symm,rfl⟩
 ·exact .inr (Li h)
@[reducible] def rz (ty:TypeId):ai:= .vec 0 1 [.ref 0 0 0 0] ⟨false,some ty⟩
theorem xy{N:Nat->Nat->Prop}{ty:TypeId}(h:N 0 0):k8 N (rz ty) (rz ty):= .vec rfl fun i v v' a b=>by
 cases i with
 |zero=>simp at a b;subst a;subst b;exact .ref h
 |succ i=>simp at a
theorem qy{N:Nat->Nat->Prop}{g sz:Nat}{es:List SV}{sk:Sk}(h: ∀v∈es,aL v):k8 N (.vec g sz es sk) (.vec g sz es sk):=
 .vec rfl fun i v v' a b=>by rw[a]at b;cases b;exact .lit (h v (List.mem_of_getElem? a))
section
variable {P:Program} {f:FuncId} {tgt:SV->ai} {ty tr:TypeId} {sz:Nat} {o0 JG:ai}
@[reducible] def aT (fl:Bool):List SV:=match fl with
  |false=>[.ref 2 0 0 0,.ref 1 0 0 0]
  |true=>[.ref 1 0 0 0,.ref 2 0 0 0]
theorem SC{N:Nat->Nat->Prop}(fl:Bool)(h1:N 1 1)(h2:N 2 2):wV N (aT fl) (aT fl):=match fl with
 |false=> .cons (.ref h2) (.cons (.ref h1) .nil)
 |true=> .cons (.ref h1) (.cons (.ref h2) .nil)
variable {fl:Bool}
end
end
inductive EPost(Q:bu->ai->Prop)(r:bu)(h':Heap):Prop
 |mk {e:bu} {o':ai} (hq:Q e o') (hl:NM e) (ho:AV o') (hh:qX ⟨h'.cI,kL wW h'.l⟩ r e) (hb:p4 e=true->h'.obj 0=some o')
structure EC(P:Program)(f:FuncId)(av:List SV)(o:ai)(Q:bu->ai->Prop):Prop where
 args: ∀a∈av,aL a
 lit:AV o
 C7:aC P f (.ref 0 0 0 0::av) ⟨1,[(0,o)]⟩ (EPost Q)
theorem EC.run{P:Program}{f:FuncId}{av:List SV}{o:ai}{Q:bu->ai->Prop}(hp:EC P f av o Q){i n:Nat}{l:List (Nat×ai)}(ho:ak l i=some o):aC P f (.ref i 0 0 0::av) ⟨n,l⟩ fun r h'=> ∃o',Q r o'/\(p4 r=true->h'=⟨n,bt l i o'⟩)/\(p4 r=false->h'=⟨n,cE (fun j=>Nat.beq j i) l⟩):=by
 have hlt: ∀ {R:bu->Heap->Prop},((∀ j p,ak l j=some p->j<n)->aC P f (.ref i 0 0 0::av) ⟨n,l⟩ R)->aC P f (.ref i 0 0 0::av) ⟨n,l⟩ R:=fun h=>⟨fun c w xs hr hs hv=>(h fun j p hj=>hr.lt j p hj).calls c w xs hr hs hv⟩
 refine hlt fun hlt=> ?_
 have hi:=hlt i o ho;refine aC.frame (N:=fun k j=>k=0/\j=i) (m:=1) (L:=[(0,o)]) (args:= .ref 0 0 0 0::av) (fun k q hk=> ?_) (fun k j hk=> ?_) (fun k k' j h h'=>h.1.trans h'.1.symm) (fun k j j' h h'=>h.2.trans h'.2.symm) (.cons (.ref ⟨rfl,rfl⟩) (kG hp.args)) (aC.mW ?_)
 ·unfold ak at hk
  by_cases h:0=k
  ·rw[if_pos h]at hk;cases hk;subst h
   exact⟨by omega,i,_,⟨rfl,rfl⟩,ho,jc hp.lit⟩
  ·rw[if_neg h]at hk;cases hk
 ·obtain⟨rfl,rfl⟩:=hk
  exact⟨by omega,_,rfl⟩
 ·refine hp.C7.mono fun r h' ⟨hq,hle,hlo,hh,ho'⟩=>⟨wW,_,hh,?_⟩
  rename_i e o';cases hb:p4 e with
  |true=>
   refine⟨fun k j=>k=0/\j=i,e,⟨n,bt l i o'⟩,⟨fun k j h=> .inl ⟨by omega,h⟩,fun k k' j h h'=>h.1.trans h'.1.symm,fun k j j' h h'=>h.2.trans h'.2.symm,fun k j h _=>h.2▸hi,Nat.le_refl _,fun j o2 hj=> ?_,sL hle⟩,o',hq,fun _=>rfl,fun h=>by rw[hb]at h;cases h⟩;by_cases hji:j=i
   ·subst hji
    have hj:ak (bt l j o') j=some o2:=hj;rw[aV ho]at hj;cases hj
    refine⟨hi,.inl ⟨0,o',⟨rfl,rfl⟩,?_,jc hlo⟩⟩;show ak (cE wW h'.l) 0=some o';rw[fB];exact ho' hb
   ·have hj:ak (bt l i o') j=some o2:=hj
    rw[aF hji]at hj;exact⟨hlt j _ hj,.inr ⟨hj,fun k hk=>hji hk.2⟩⟩
  |false=>
   refine⟨fun k j=>k=0/\j=i,e,⟨n,cE (fun j=>Nat.beq j i) l⟩,⟨fun k j h=> .inl ⟨by omega,h⟩,fun k k' j h h'=>h.1.trans h'.1.symm,fun k j j' h h'=>h.2.trans h'.2.symm,fun k j h _=>h.2▸hi,Nat.le_refl _,fun j o2 hj=> ?_,sL hle⟩,o',hq,(fun h=>by rw[hb]at h;cases h),fun _=>rfl⟩;have hj:ak (cE (fun j=>Nat.beq j i) l) j=some o2:=hj;rw[fB]at hj;split at hj
   ·cases hj
   ·rename_i hne
    exact⟨hlt j _ hj,.inr ⟨hj,fun k hk=>hne (by rw[hk.2];exact Nat.beq_refl i)⟩⟩
theorem EC.go{P:Program}{f:FuncId}{av:List SV}{o:ai}{Q:bu->ai->Prop}(hp:EC P f av o Q){i n:Nat}{l:List (Nat×ai)}{R:bu->Heap->Prop}(ho:ak l i=some o)
  (hok: ∀v o',Q (.ret v) o'->R (.ret v) ⟨n,bt l i o'⟩)(eO: ∀v o',Q (.eY v) o'->R (.eY v) ⟨n,cE (fun j=>Nat.beq j i) l⟩):aC P f (.ref i 0 0 0::av) ⟨n,l⟩ R:=by
 refine(hp.run ho).mono fun r h' ⟨o',hq,h1,h2⟩=> ?_
 cases r with
 |ret v=>rw[h1 rfl];exact hok v o' hq
 |eY v=>rw[h2 rfl];exact eO v o' hq
theorem EC.of{P:Program}{f:FuncId}{av:List SV}{o:ai}{e:bu}{o':ai}{Q:bu->ai->Prop}(hp:fU P f av o e o')(hq:Q e o'):EC P f av o Q:=
 ⟨hp.args,hp.lit,hp.C7.mono fun r h' ⟨h1,h2⟩=>⟨hq,hp.end_,hp.lit',h1,h2⟩⟩
theorem fI.get{A:Heap}{l l':List SV}(h:fI A l l'):bA A (.agg l) (.agg l'):= .agg h.len fun i u u' a b=>by
 obtain⟨w,hw,hh⟩:=h.at_ b;rw[a]at hw;cases hw
 exact hh
end Ab
