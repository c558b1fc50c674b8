/- Parts of the proof of PCatalogBack, one behind the other, with short names. -/
import Derived.Test.YtegmnocpkgpgeaaGreatDoorZ45
set_option linter.unusedVariables false
set_option linter.unusedSimpArgs false
namespace Go.Proofs.YtegmnocpkgpgeaaGreatDoor
open Ab Go.RowKit
set_option maxRecDepth 100000
set_option maxHeartbeats 4000000
attribute [local irreducible] aS bH
@[reducible] def oI:Option Nat->SV
  |none=> .int .i64 (-1)
  |some i=> .int .i64 i
theorem nh: ∀o:Option Nat,aL (oI o)
 |none=> .int _ _
 |some _=> .int _ _
theorem ke{α:Type}{p:α->Bool}{l:List α}{i:Nat}(hi:i<l.length)(h: ∀x∈l.take i,p x=false)(hp:p l[i]=false): ∀x∈l.take (i+1),p x=false:=by
 intro x hx;rw[List.take_add_one,List.mem_append]at hx;rcases hx with hx|hx
 ·exact h x hx
 ·rw[List.getElem?_eq_getElem hi]at hx
  simp at hx;subst hx;exact hp
theorem vK{α:Type}{p:α->Bool}{l:List α}{i:Nat}(hi:i<l.length)(h: ∀x∈l.take i,p x=false)(hp:p l[i]=true):l.findIdx? p=some i:=by
 rw[List.findIdx?_eq_some_iff_getElem];refine⟨hi,hp,fun j hj=> ?_⟩;rw[h l[j] (by rw[List.mem_take_iff_getElem];exact⟨j,by omega,rfl⟩)];decide
theorem tf{α:Type}{p:α->Bool}{l:List α}(h: ∀x∈l.take l.length,p x=false):l.findIdx? p=none:=by
 rw[List.take_length]at h;exact List.findIdx?_eq_none_iff.2 h
theorem ur{α:Type}{l:List α}{v:α->SV}{i:Nat}(hi:i<l.length):(fun j=>(l.map v).getD j .undef) i=v l[i]:=by
 show(l.map v).getD i .undef=_;simp[List.getD,hi]
theorem vL{f:FuncId}{w:SV}(hw:aL w):aL (.func (.func f) [] [w]):= .func _ (by intro v hv;cases hv) (by intro v hv;simp at hv;subst hv;exact hw)
theorem Oz{α:Type}{l:List α}{v:α->SV}{p:α->Bool}{F:FuncId}{w:SV}{n:Nat}{g:Nat->SV}(L8:n=l.length)(pq: ∀i (hi:i<l.length),g i=v l[i])(hF:eS Tryz.prog F=true)(hw:aL w)(hn:l.length<=100000)(hv: ∀x,∃a0 a1 a2 a3 a4:SV,v x= .agg [a0,a1,a2,a3,a4]/\cZ [a0,a1,a2,a3,a4]=true)
  (hc: ∀x∈l,aj Tryz.prog F [v x,w] (.bool (p x))):aj Tryz.prog 81 [.aW 5 n g,.func (.func F) [] [w]] (oI (l.findIdx? p)):=by
 refine aG (cP (.aW _ _ _) (vL hw)) (Vg.call mixed rfl ?_);subst L8;iterate 20 all_goals ((try conv=>whnf);try first|(with_reducible first|refine zY ?_|refine zN ?_|refine zT ?_|refine br (fun _=> ?_) (fun _=> ?_)|refine⟨rfl,?_⟩))
 refine dz (σ:={i:Nat // i<=l.length/\ ∀x∈l.take i,p x=false}) (fun y=>[(0,.aW 5 l.length g),(1,.func (.func F) [] [w]),(4,.int .i64 0),(7,.int .i64 (l.length:Int)),(8,.int .i64 ((y.1:Nat):Int))])
  (fun _=>⟨0,[]⟩) (fun y=>l.length-y.1) (fun _=>0) (fun _=>Nat.le_refl 0) ?_ ⟨0,Nat.zero_le _,by simp⟩
 rintro⟨i,hi,hq⟩;dsimp only;have e7:IntKind.i64.wrap ((i:Int)+1)=((i+1:Nat):Int):=bf (by omega);have et:=Int.toNat_natCast i;by_cases hil:i<l.length
 ·have hd:decide ((i:Int)<(l.length:Int))=true:=decide_eq_true (by omega)
  have hb:(decide (0<=(i:Int))&&decide ((i:Int)<(l.length:Int)))=true:=by simp only[Bool.and_eq_true,decide_eq_true_eq];omega
  obtain⟨a0,a1,a2,a3,a4,ea,oa⟩:=hv l[i];have pa:(Nat.beq [a0,a1,a2,a3,a4].length 5&&cZ [a0,a1,a2,a3,a4])=true:=oa;have cf:=hc l[i] (List.getElem_mem hil);have eg:=(pq i hil).trans ea;rw[ea]at cf;rw[<- et]at eg;cases oF:p l[i]with
  |true=>
   rw[oF]at cf;iterate 80 all_goals ((try conv=>whnf);try first|(with_reducible first|refine zY ?_|refine zN ?_|refine zT ?_|refine br (fun _=> ?_) (fun _=> ?_)|refine⟨rfl,?_⟩)|(refine aj.call cf ?_)|(rewrite [eg]))
   exact leaf (by rw[vK hil hq oF]) (nh _)
  |false=>
   rw[oF]at cf;iterate 80 all_goals ((try conv=>whnf);try first|(with_reducible first|refine zY ?_|refine zN ?_|refine zT ?_|refine br (fun _=> ?_) (fun _=> ?_)|refine⟨rfl,?_⟩)|(refine aj.call cf ?_)|(rewrite [eg]))
   exact⟨⟨i+1,hil,ke hil hq oF⟩,by dsimp only;omega,by rw[e7],rfl⟩
 ·have hd:decide ((i:Int)<(l.length:Int))=false:=decide_eq_false (by omega)
  obtain rfl:i=l.length:=by omega
  iterate 20 all_goals ((try conv=>whnf);try first|(with_reducible first|refine zY ?_|refine zN ?_|refine zT ?_|refine br (fun _=> ?_) (fun _=> ?_)|refine⟨rfl,?_⟩))
  exact leaf (by rw[tf hq]) (nh _)
theorem OA{α:Type}{l:List α}{v:α->SV}{p:α->Bool}{F:FuncId}{w:SV}{n:Nat}{g:Nat->SV}(L8:n=l.length)(pq: ∀i (hi:i<l.length),g i=v l[i])(hF:eS Tryz.prog F=true)(hw:aL w)(hn:l.length<=100000)(hv: ∀x,∃a0 a1 a2:SV,v x= .agg [a0,a1,a2]/\cZ [a0,a1,a2]=true)
  (hc: ∀x∈l,aj Tryz.prog F [v x,w] (.bool (p x))):aj Tryz.prog 106 [.aW 3 n g,.func (.func F) [] [w]] (oI (l.findIdx? p)):=by
 refine aG (cP (.aW _ _ _) (vL hw)) (Q4.call mixed rfl ?_);subst L8;iterate 20 all_goals ((try conv=>whnf);try first|(with_reducible first|refine zY ?_|refine zN ?_|refine zT ?_|refine br (fun _=> ?_) (fun _=> ?_)|refine⟨rfl,?_⟩))
 refine dz (σ:={i:Nat // i<=l.length/\ ∀x∈l.take i,p x=false}) (fun y=>[(0,.aW 3 l.length g),(1,.func (.func F) [] [w]),(4,.int .i64 0),(7,.int .i64 (l.length:Int)),(8,.int .i64 ((y.1:Nat):Int))])
  (fun _=>⟨0,[]⟩) (fun y=>l.length-y.1) (fun _=>0) (fun _=>Nat.le_refl 0) ?_ ⟨0,Nat.zero_le _,by simp⟩
 rintro⟨i,hi,hq⟩;dsimp only;have e7:IntKind.i64.wrap ((i:Int)+1)=((i+1:Nat):Int):=bf (by omega);have et:=Int.toNat_natCast i;by_cases hil:i<l.length
 ·have hd:decide ((i:Int)<(l.length:Int))=true:=decide_eq_true (by omega)
  have hb:(decide (0<=(i:Int))&&decide ((i:Int)<(l.length:Int)))=true:=by simp only[Bool.and_eq_true,decide_eq_true_eq];omega
  obtain⟨a0,a1,a2,ea,oa⟩:=hv l[i];have pa:(Nat.beq [a0,a1,a2].length 3&&cZ [a0,a1,a2])=true:=oa;have cf:=hc l[i] (List.getElem_mem hil);have eg:=(pq i hil).trans ea;rw[ea]at cf;rw[<- et]at eg;cases oF:p l[i]with
  |true=>
   rw[oF]at cf;iterate 80 all_goals ((try conv=>whnf);try first|(with_reducible first|refine zY ?_|refine zN ?_|refine zT ?_|refine br (fun _=> ?_) (fun _=> ?_)|refine⟨rfl,?_⟩)|(refine aj.call cf ?_)|(rewrite [eg]))
   exact leaf (by rw[vK hil hq oF]) (nh _)
  |false=>
   rw[oF]at cf;iterate 80 all_goals ((try conv=>whnf);try first|(with_reducible first|refine zY ?_|refine zN ?_|refine zT ?_|refine br (fun _=> ?_) (fun _=> ?_)|refine⟨rfl,?_⟩)|(refine aj.call cf ?_)|(rewrite [eg]))
   exact⟨⟨i+1,hil,ke hil hq oF⟩,by dsimp only;omega,by rw[e7],rfl⟩
 ·have hd:decide ((i:Int)<(l.length:Int))=false:=decide_eq_false (by omega)
  obtain rfl:i=l.length:=by omega
  iterate 20 all_goals ((try conv=>whnf);try first|(with_reducible first|refine zY ?_|refine zN ?_|refine zT ?_|refine br (fun _=> ?_) (fun _=> ?_)|refine⟨rfl,?_⟩))
  exact leaf (by rw[tf hq]) (nh _)
theorem OB{α:Type}{l:List α}{v:α->SV}{p:α->Bool}{F:FuncId}{w:SV}{n:Nat}{g:Nat->SV}(L8:n=l.length)(pq: ∀i (hi:i<l.length),g i=v l[i])(hF:eS Tryz.prog F=true)(hw:aL w)(hn:l.length<=100000)(hv: ∀x,∃a0 a1 a2 a3:SV,v x= .agg [a0,a1,a2,a3]/\cZ [a0,a1,a2,a3]=true)
  (hc: ∀x∈l,aj Tryz.prog F [v x,w] (.bool (p x))):aj Tryz.prog 108 [.aW 4 n g,.func (.func F) [] [w]] (oI (l.findIdx? p)):=by
 refine aG (cP (.aW _ _ _) (vL hw)) (Q6.call mixed rfl ?_);subst L8;iterate 20 all_goals ((try conv=>whnf);try first|(with_reducible first|refine zY ?_|refine zN ?_|refine zT ?_|refine br (fun _=> ?_) (fun _=> ?_)|refine⟨rfl,?_⟩))
 refine dz (σ:={i:Nat // i<=l.length/\ ∀x∈l.take i,p x=false}) (fun y=>[(0,.aW 4 l.length g),(1,.func (.func F) [] [w]),(4,.int .i64 0),(7,.int .i64 (l.length:Int)),(8,.int .i64 ((y.1:Nat):Int))])
  (fun _=>⟨0,[]⟩) (fun y=>l.length-y.1) (fun _=>0) (fun _=>Nat.le_refl 0) ?_ ⟨0,Nat.zero_le _,by simp⟩
 rintro⟨i,hi,hq⟩;dsimp only;have e7:IntKind.i64.wrap ((i:Int)+1)=((i+1:Nat):Int):=bf (by omega);have et:=Int.toNat_natCast i;by_cases hil:i<l.length
 ·have hd:decide ((i:Int)<(l.length:Int))=true:=decide_eq_true (by omega)
  have hb:(decide (0<=(i:Int))&&decide ((i:Int)<(l.length:Int)))=true:=by simp only[Bool.and_eq_true,decide_eq_true_eq];omega
  obtain⟨a0,a1,a2,a3,ea,oa⟩:=hv l[i];have pa:(Nat.beq [a0,a1,a2,a3].length 4&&cZ [a0,a1,a2,a3])=true:=oa;have cf:=hc l[i] (List.getElem_mem hil);have eg:=(pq i hil).trans ea;rw[ea]at cf;rw[<- et]at eg;cases oF:p l[i]with
  |true=>
   rw[oF]at cf;iterate 80 all_goals ((try conv=>whnf);try first|(with_reducible first|refine zY ?_|refine zN ?_|refine zT ?_|refine br (fun _=> ?_) (fun _=> ?_)|refine⟨rfl,?_⟩)|(refine aj.call cf ?_)|(rewrite [eg]))
   exact leaf (by rw[vK hil hq oF]) (nh _)
  |false=>
   rw[oF]at cf;iterate 80 all_goals ((try conv=>whnf);try first|(with_reducible first|refine zY ?_|refine zN ?_|refine zT ?_|refine br (fun _=> ?_) (fun _=> ?_)|refine⟨rfl,?_⟩)|(refine aj.call cf ?_)|(rewrite [eg]))
   exact⟨⟨i+1,hil,ke hil hq oF⟩,by dsimp only;omega,by rw[e7],rfl⟩
 ·have hd:decide ((i:Int)<(l.length:Int))=false:=decide_eq_false (by omega)
  obtain rfl:i=l.length:=by omega
  iterate 20 all_goals ((try conv=>whnf);try first|(with_reducible first|refine zY ?_|refine zN ?_|refine zT ?_|refine br (fun _=> ?_) (fun _=> ?_)|refine⟨rfl,?_⟩))
  exact leaf (by rw[tf hq]) (nh _)
theorem L9{l:List Nat}{x n:Nat}{g:Nat->SV}(L8:n=l.length)(pq: ∀i (hi:i<l.length),g i= .int .i64 l[i])(hn:l.length<=100000):aj Tryz.prog 109 [.aW 1 n g,.int .i64 x] (.bool (l.contains x)):=by
 have c:aj Tryz.prog 166 [.aW 1 n g,.int .i64 x] (oI (l.findIdx? fun y=>y==x)):=by
  refine aG (cP (.aW _ _ _) (.int _ _)) (RL.call mixed rfl ?_);subst L8;iterate 20 all_goals ((try conv=>whnf);try first|(with_reducible first|refine zY ?_|refine zN ?_|refine zT ?_|refine br (fun _=> ?_) (fun _=> ?_)|refine⟨rfl,?_⟩))
  refine dz (σ:={i:Nat // i<=l.length/\ ∀y∈l.take i,(y==x)=false}) (fun y=>[(0,.aW 1 l.length g),(1,.int .i64 x),(4,.int .i64 0),(7,.int .i64 (l.length:Int)),(8,.int .i64 ((y.1:Nat):Int))])
   (fun _=>⟨0,[]⟩) (fun y=>l.length-y.1) (fun _=>0) (fun _=>Nat.le_refl 0) ?_ ⟨0,Nat.zero_le _,by simp⟩
  rintro⟨i,hi,hq⟩;dsimp only;have e7:IntKind.i64.wrap ((i:Int)+1)=((i+1:Nat):Int):=bf (by omega);have et:=Int.toNat_natCast i;by_cases hil:i<l.length
  ·have hd:decide ((i:Int)<(l.length:Int))=true:=decide_eq_true (by omega)
   have hb:(decide (0<=(i:Int))&&decide ((i:Int)<(l.length:Int)))=true:=by simp only[Bool.and_eq_true,decide_eq_true_eq];omega
   have eg:g (i:Int).toNat= .int .i64 (l[i]:Int):=by rw[et];exact pq i hil
   cases oF:l[i]==x with
   |true=>
    have hx:((x:Int)==(l[i]:Int))=true:=by rw[eq_of_beq oF];exact beq_self_eq_true _
    iterate 80 all_goals ((try conv=>whnf);try first|(with_reducible first|refine zY ?_|refine zN ?_|refine zT ?_|refine br (fun _=> ?_) (fun _=> ?_)|refine⟨rfl,?_⟩)|(rewrite [eg]))
    exact leaf (by rw[vK hil hq oF]) (nh _)
   |false=>
    have hx:((x:Int)==(l[i]:Int))=false:=beq_eq_false_iff_ne.2 fun h=>(beq_eq_false_iff_ne.1 oF) (by omega)
    iterate 80 all_goals ((try conv=>whnf);try first|(with_reducible first|refine zY ?_|refine zN ?_|refine zT ?_|refine br (fun _=> ?_) (fun _=> ?_)|refine⟨rfl,?_⟩)|(rewrite [eg]))
    exact⟨⟨i+1,hil,ke hil hq oF⟩,by dsimp only;omega,by rw[e7],rfl⟩
  ·have hd:decide ((i:Int)<(l.length:Int))=false:=decide_eq_false (by omega)
   obtain rfl:i=l.length:=by omega
   iterate 20 all_goals ((try conv=>whnf);try first|(with_reducible first|refine zY ?_|refine zN ?_|refine zT ?_|refine br (fun _=> ?_) (fun _=> ?_)|refine⟨rfl,?_⟩))
   exact leaf (by rw[tf hq]) (nh _)
 refine aG (cP (.aW _ _ _) (.int _ _)) (Q7.call mixed rfl ?_);cases hf:l.findIdx? fun y=>y==x with
 |none=>
  rw[hf]at c;iterate 20 all_goals ((try conv=>whnf);try first|(with_reducible first|refine zY ?_|refine zN ?_|refine zT ?_|refine br (fun _=> ?_) (fun _=> ?_)|refine⟨rfl,?_⟩)|(refine c.call ?_))
  have hb:l.contains x=false:=by
   rw[List.findIdx?_eq_none_iff]at hf;rw[List.contains_eq_any_beq,List.any_eq_false];intro y hy h;rw[beq_iff_eq]at h;subst h;exact absurd (hf _ hy) (by simp)
  exact leaf (by rw[hb];rfl) (.bool _)
 |some i=>
  rw[hf]at c;have hi:decide ((i:Int)>=0)=true:=decide_eq_true (by omega);iterate 20 all_goals ((try conv=>whnf);try first|(with_reducible first|refine zY ?_|refine zN ?_|refine zT ?_|refine br (fun _=> ?_) (fun _=> ?_)|refine⟨rfl,?_⟩)|(refine c.call ?_))
  have hb:l.contains x=true:=by
   rw[List.findIdx?_eq_some_iff_getElem]at hf;obtain⟨h1,h2,_⟩:=hf;rw[List.contains_iff_mem,<-eq_of_beq h2];exact List.getElem_mem h1
  exact leaf (by rw[hb];exact congrArg SV.bool hi) (.bool _)
@[reducible] def gA (i:Nat):SV:= .int .i64 i
@[reducible] def Jg (k:Nat) (x:Ix):SV:= .agg [.str x.nm,.int .i64 k,rowOf 1 (x.aq.map gA),.bool x.To]
def j4:Nat->List Ix->List SV
 |_,[]=>[]
 |k,x::r=>Jg k x::j4 (k+1) r
@[reducible] def FN (k:Nat) (t:Tb) (w:SV):SV:= .agg [.str t.nm,.int .i64 k,rowOf 3 (t.aq.map gQ),rowOf 1 (t.key.map gA),w]
@[reducible] def BB (k:Nat) (t:Tb):SV:=FN k t (rowOf 4 (j4 1 t.idx))
def oP:Nat->List Tb->List SV
 |_,[]=>[]
 |k,x::r=>BB k x::oP (k+1) r
@[reducible] def qf (c:List Tb):SV:= .agg [rowOf 5 (oP 1 c)]
def qP{α:Type}:Nat->List α->List (Nat×α)
 |_,[]=>[]
 |k,x::r=>(k,x)::qP (k+1) r
theorem xV{α:Type}{p:α->Bool}: ∀ {k:Nat} {l:List α},(qP k l).findIdx? (fun x=>p x.2)=l.findIdx? p
 |_,[]=>rfl
 |k,x::r=>by simp only[qP,List.findIdx?_cons,xV (l:=r)]
theorem Bp{α:Type}: ∀ {k:Nat} {l:List α},(qP k l).length=l.length
 |_,[]=>rfl
 |k,x::r=>congrArg (· +1) (Bp (l:=r))
theorem Bq: ∀ {k:Nat} {l:List Ix},j4 k l=(qP k l).map fun x=>Jg x.1 x.2
 |_,[]=>rfl
 |k,x::r=>congrArg (_:: ·) (Bq (l:=r))
theorem Br: ∀ {k:Nat} {l:List Tb},oP k l=(qP k l).map fun x=>BB x.1 x.2
 |_,[]=>rfl
 |k,x::r=>congrArg (_:: ·) (Br (l:=r))
theorem S1{k:Nat}{l:List Ix}: ∀i (hi:i<(qP k l).length),(fun j=>(j4 k l).getD j .undef) i=(fun x:Nat×Ix=>Jg x.1 x.2) (qP k l)[i]:=fun i hi=>by rw[Bq];exact ur hi
theorem S2{k:Nat}{l:List Tb}: ∀i (hi:i<(qP k l).length),(fun j=>(oP k l).getD j .undef) i=(fun x:Nat×Tb=>BB x.1 x.2) (qP k l)[i]:=fun i hi=>by rw[Br];exact ur hi
theorem OC{k:Nat}{l:List Ix}:(j4 k l).length=(qP k l).length:=by rw[Bq,List.length_map]
theorem OD{k:Nat}{l:List Tb}:(oP k l).length=(qP k l).length:=by rw[Br,List.length_map]
theorem vM(nm:List UInt8):aL (.kK (.str nm) 0):= .kK _ _
theorem Ma(x:fH)(nm:List UInt8):aj Tryz.prog 107 [gQ x,.kK (.str nm) 0] (.bool (x.nm==nm)):=by
 refine aG (cP (.agg (by simp[aL.str,aL.int,aL.bool])) (vM _)) (Q5.call mixed rfl ?_);iterate 40 all_goals ((try conv=>whnf);try first|(with_reducible first|refine zY ?_|refine zN ?_|refine zT ?_|refine br (fun _=> ?_) (fun _=> ?_)|refine⟨rfl,?_⟩))
 exact leaf rfl (.bool _)
theorem Mb(k:Nat)(t:Tb)(nm:List UInt8):aj Tryz.prog 82 [BB k t,.kK (.str nm) 0] (.bool (t.nm==nm)):=by
 refine aG (cP (.agg (by simp[aL.str,aL.int,aL.aW])) (vM _)) (Vh.call mixed rfl ?_);iterate 40 all_goals ((try conv=>whnf);try first|(with_reducible first|refine zY ?_|refine zN ?_|refine zT ?_|refine br (fun _=> ?_) (fun _=> ?_)|refine⟨rfl,?_⟩))
 exact leaf rfl (.bool _)
theorem xW: ∀o:Option Nat,iE (oI o)
 |none=> .int _ _
 |some _=> .int _ _
theorem ji{α:Type}{l:List α}{v:α->SV}: ∀i (hi:i<l.length),(fun j=>(l.map v).getD j .undef) i=v l[i]:=fun i hi=>ur hi
theorem DN{l:List fH}{nm:List UInt8}{n:Nat}{g:Nat->SV}(hn:n=l.length)(hg: ∀i (hi:i<l.length),g i=gQ l[i])(hl:l.length<=100000):aj Tryz.prog 62 [.aW 3 n g,.str nm] (oI (fW l nm)):=by
 have c:=OA (F:=107) (w:= .kK (.str nm) 0) (v:=gQ) (p:=fun c=>c.nm==nm) hn hg rfl (vM nm) hl (fun x=>⟨_,_,_,rfl,rfl⟩) fun x _=>Ma x nm
 refine aG (cP (.aW _ _ _) (.str _)) (UT.call mixed rfl ?_);iterate 40 all_goals ((try conv=>whnf);try first|(with_reducible first|refine zY ?_|refine zN ?_|refine zT ?_|refine br (fun _=> ?_) (fun _=> ?_)|refine⟨rfl,?_⟩)|(refine c.L7 (fun _=>true) (.cons (.lit (.aW _ _ _)) (.fn (.cons (.ref (elems:=[.str nm]) rfl rfl (.lit (.str _))) .nil) .nil)) (xW _) ?_))
 exact leaf rfl (nh _)
theorem xX{l:List Tb}{nm:List UInt8}(hl:l.length<=100000):aj Tryz.prog 37 [qf l,.str nm] (oI (iu l nm)):=by
 have c:=Oz (F:=82) (w:= .kK (.str nm) 0) (v:=fun x:Nat×Tb=>BB x.1 x.2) (p:=fun c=>c.2.nm==nm) (l:=qP 1 l) OD S2 rfl (vM nm) (by rw[Bp];exact hl) (fun x=>⟨_,_,_,_,_,rfl,rfl⟩) fun x _=>Mb x.1 x.2 nm
 rw[show List.findIdx? (fun c:Nat×Tb=>c.2.nm==nm) (qP 1 l)=iu l nm from xV (p:=fun t:Tb=>t.nm==nm)]at c;refine aG (cP (.agg (by simp[aL.aW])) (.str _)) (UF.call mixed rfl ?_);iterate 40 all_goals ((try conv=>whnf);try first|(with_reducible first|refine zY ?_|refine zN ?_|refine zT ?_|refine br (fun _=> ?_) (fun _=> ?_)|refine⟨rfl,?_⟩)|(refine c.L7 (fun _=>true) (.cons (.lit (.aW _ _ _)) (.fn (.cons (.ref (elems:=[.str nm]) rfl rfl (.lit (.str _))) .nil) .nil)) (xW _) ?_))
 exact leaf rfl (nh _)
theorem qh{l:List fH}{n:List UInt8}: ∀ {ns:List (List UInt8)} {xs:List Nat},dJ l ns=some xs->dJ l (ns++[n])=(fW l n).map fun i=>xs++[i]
 | [],xs,h=>by
   cases h
   simp only[List.nil_append,dJ];cases fW l n<;>rfl
 |m::r,xs,h=>by
  simp only[dJ]at h;simp only[List.cons_append,dJ];cases h1:fW l m with
  |none=>rw[h1]at h;cases h
  |some i=>
   cases h2:dJ l r with
   |none=>rw[h1,h2]at h;cases h
   |some is=>
    rw[h1,h2]at h;cases h
    rw[qh h2];cases fW l n<;>rfl
theorem uZ{l:List fH}{n:List UInt8}(hn:fW l n=none): ∀ {ns:List (List UInt8)},n∈ns->dJ l ns=none
 |m::r,h=>by
  simp only[dJ];rcases List.mem_cons.1 h with rfl|h
  ·rw[hn]
  ·rw[uZ hn h]
   cases fW l m<;>rfl
def VY:Except Int (List Nat)->SV
 | .error e=> .bn [.af,.int .i64 e]
 | .ok xs=> .bn [rowOf 1 (xs.map gA),.int .i64 0]
@[reducible] def VZ (g:Nat) (xs:List Nat):ai:= .vec g 1 (xs.map gA) ⟨true,some 3⟩
inductive M4(l:List fH)(ns:List (List UInt8)) where
 |E
 |L (g i:Nat) (xs:List Nat) (hi:i<=ns.length) (hn:xs.length=i) (h0:0<i) (h:dJ l (ns.take i)=some xs)
@[reducible] def M4.hp {l:List fH} {ns:List (List UInt8)}:M4 l ns->Heap
  | .E=>⟨0,[]⟩
  | .L g _ xs .. =>⟨2,[(1,VZ g xs)]⟩
@[reducible] def M4.i {l:List fH} {ns:List (List UInt8)}:M4 l ns->Nat
  | .E=>0
  | .L _ i .. =>i
@[reducible] def M4.out {l:List fH} {ns:List (List UInt8)}:M4 l ns->SV
  | .E=> .af
  | .L g i .. => .sl 1 g 1 0 i none
theorem xY{l:List fH}{ns:List (List UInt8)}{h:Heap}{e:Int}(hf:bY l ns= .error e): ∃v',bu.ret (.bn [.af,.int .i64 e])= .ret v'/\bA h v' (VY (bY l ns)):=
 ⟨_,rfl,by rw[hf];exact .lit (.bn (by simp[aL.af,aL.int]))⟩
theorem Hh: ∀l:List (Nat×ai),cE (fun _=>true) l=[]
 | []=>rfl
 |(i,o)::r=>Hh r
theorem OE(n:Nat)(xs:List Nat)(x:Nat): ∀v∈xs.map gA++[oI (some x)],SV.lt 8 n v=true:=by
 intro v hv;rcases List.mem_append.1 hv with h|h
 ·obtain⟨k,_,rfl⟩:=List.mem_map.1 h;rfl
 ·obtain rfl:=List.mem_singleton.1 h;rfl
theorem xZ{l:List fH}{ns:List (List UInt8)}(hl:l.length<=1000)(hn:ns.length<=1000):aj Tryz.prog 67 [rowOf 3 (l.map gQ),rowOf 1 (ns.map SV.str)] (VY (bY l ns)):=by
 refine aG (cP (.aW _ _ _) (.aW _ _ _)) (UZ.call mixed rfl ?_);have hlen:(ns.map SV.str).length=ns.length:=List.length_map ..;have Bf:=fun nm=>DN (l:=l) (nm:=nm) (n:=(l.map gQ).length) (g:=fun j=>(l.map gQ).getD j .undef) (List.length_map ..) ji (by omega)
 unfold rowOf;rw[hlen];generalize hg:(fun j=>(ns.map SV.str).getD j .undef)=g;have pq: ∀i (hi:i<ns.length),g i= .str ns[i]:=fun i hi=>by rw[<- hg];exact ur hi
 clear hg;iterate 20 all_goals ((try conv=>whnf);try first|(with_reducible first|refine zY ?_|refine zN ?_|refine zT ?_|refine br (fun _=> ?_) (fun _=> ?_)|refine⟨rfl,?_⟩))
 refine iq (σ:=M4 l ns) true (fun s=>[(0,rowOf 3 (l.map gQ)),(1,.aW 1 ns.length g),(4,.af),(5,.int .i64 0),(6,s.out),(12,.aW 1 ns.length g),(13,.int .i64 ns.length),(14,.int .i64 s.i)]) M4.hp (fun s=>ns.length-s.i) ?_ .E;intro s;have hi:s.i<=ns.length:=by cases s<;>first|exact Nat.zero_le _|assumption
 have e7:IntKind.i64.wrap ((s.i:Int)+1)=((s.i+1:Nat):Int):=bf (by omega);have et:=Int.toNat_natCast s.i;by_cases hil:s.i<ns.length
 ·have hd:decide ((s.i:Int)<(ns.length:Int))=true:=decide_eq_true (by omega)
  have hb:(decide (0<=(s.i:Int))&&decide ((s.i:Int)<(ns.length:Int)))=true:=by simp only[Bool.and_eq_true,decide_eq_true_eq];omega
  have eg:g (s.i:Int).toNat= .str ns[s.i]:=by rw[et];exact pq _ hil
  have cc:=Bf ns[s.i];cases hc:fW l ns[s.i]with
  |none=>
   rw[hc]at cc;have hend:=xY (l:=l) (ns:=ns) (h:=s.hp) (e:=4) (by rw[bY,uZ hc (List.getElem_mem hil)]);iterate 60 all_goals ((try conv=>whnf);try first|(with_reducible first|refine zY ?_|refine zN ?_|refine zT ?_|refine br (fun _=> ?_) (fun _=> ?_)|refine⟨rfl,?_⟩)|(rewrite [eg])|(refine cc.call ?_))
   exact hend
  |some x=>
   rw[hc]at cc;have hx:decide ((x:Int)<0)=false:=decide_eq_false (by omega);cases s with
   |E=>
    iterate 60 all_goals ((try conv=>whnf);try first|(with_reducible first|refine zY ?_|refine zN ?_|refine zT ?_|refine br (fun _=> ?_) (fun _=> ?_)|refine⟨rfl,?_⟩)|(rewrite [eg])|(refine cc.call ?_)|(refine eW rfl (by decide) ?_))
    refine⟨fun j=>Nat.beq j 0,_,_,2,(by show 0<=2;decide),bh,.refl,?_⟩;iterate 14 all_goals ((try conv=>whnf);try first|(with_reducible first|refine zY ?_|refine zN ?_|refine zT ?_|refine br (fun _=> ?_) (fun _=> ?_)|refine⟨rfl,?_⟩)|(refine au (fP rfl) ?_))
    exact⟨.L 0 1 [x] (by omega) rfl (by decide) (by
     have:=qh (l:=l) (n:=ns[0]) (ns:=[]) (xs:=[]) rfl;rw[List.take_add_one,List.take_zero,List.getElem?_eq_getElem hil];exact this.trans (by rw[show fW l ns[0]=some x from hc];rfl)),by have h9:0<ns.length:=hil;show ns.length-1<ns.length-0;omega,by rw[e7],rfl⟩
   |L gg i xs hi2 hn2 h0 h=>
    subst hn2;have qQ:=Nat.beq_refl gg;iterate 60 all_goals ((try conv=>whnf);try first|(with_reducible first|refine zY ?_|refine zN ?_|refine zT ?_|refine br (fun _=> ?_) (fun _=> ?_)|refine⟨rfl,?_⟩)|(rewrite [eg])|(refine cc.call ?_)|(refine eu (List.length_map ..).symm rfl (by decide) rfl (by omega) (by omega) ?_))
    refine⟨fun j=>Nat.beq j 2,_,_,2,(by show 2<=2;decide),bh,.refl,?_⟩;iterate 14 all_goals ((try conv=>whnf);try first|(with_reducible first|refine zY ?_|refine zN ?_|refine zT ?_|refine br (fun _=> ?_) (fun _=> ?_)|refine⟨rfl,?_⟩)|(refine au (OE 2 xs x) ?_))
    exact⟨.L (gg+1) (xs.length+1) (xs++[x]) hil (by simp) (by omega) (by
     rw[List.take_add_one,List.getElem?_eq_getElem hil];exact(qh h).trans (by rw[show fW l ns[xs.length]=some x from hc];rfl)),by have h9:xs.length<ns.length:=hil;show ns.length-(xs.length+1)<ns.length-xs.length;omega,by rw[e7],by dsimp only[M4.hp,VZ];rw[List.map_append];rfl⟩
 ·obtain⟨xs,hxs,hH⟩: ∃xs,dJ l ns=some xs/\ ∀n,bA ⟨n,kL (fun _=>true) s.hp.l⟩ s.out (rowOf 1 (xs.map gA)):=by
   cases s with
   |E=>
    refine⟨[],?_,fun n=> .nil⟩;rw[show ns=[] from List.eq_nil_of_length_eq_zero (by simp only[M4.i]at hil;omega)];rfl
   |L gg i xs hi2 hn2 h0 h=>
    refine⟨xs,?_,fun n=> ?_⟩
    ·have h9: ¬i<ns.length:=hil
     have h8:ns.take i=ns:=List.take_of_length_le (by omega);rw[h8]at h;exact h
    ·exact dH rfl (by rw[List.length_map];exact hn2.symm) (by intro v hv;obtain⟨k,_,rfl⟩:=List.mem_map.1 hv;exact .int _ _)
  have hd:decide ((s.i:Int)<(ns.length:Int))=false:=decide_eq_false (by omega);iterate 20 all_goals ((try conv=>whnf);try first|(with_reducible first|refine zY ?_|refine zN ?_|refine zT ?_|refine br (fun _=> ?_) (fun _=> ?_)|refine⟨rfl,?_⟩))
  refine⟨fun _=>true,_,[],qF (qF (qF (qF (L6 (hH _) bh)))),(by rw[Hh];exact .nil),?_⟩;have hxl:(xs.map gA).length=xs.length:=List.length_map ..;unfold rowOf;rw[hxl];generalize qM:(fun j=>(xs.map gA).getD j .undef)=g2;have OF: ∀i (hi:i<xs.length),g2 i=gA xs[i]:=fun i hi=>by rw[<- qM];exact ur hi
  have hxn:=l7 hxs;generalize s.hp.cI=N;have hNN:=Nat.beq_refl N;iterate 30 all_goals ((try conv=>whnf);try first|(with_reducible first|refine zY ?_|refine zN ?_|refine zT ?_|refine br (fun _=> ?_) (fun _=> ?_)|refine⟨rfl,?_⟩))
  refine dz (σ:={j:Nat // j<=xs.length/\(xs.take j).Nodup}) (fun y=>[(0,rowOf 3 (l.map gQ)),(1,.aW 1 ns.length g),(4,.af),(5,.int .i64 0),(6,.aW 1 xs.length g2),(12,.aW 1 ns.length g),(13,.int .i64 ns.length),(14,.int .i64 s.i),(15,.bool false),(28,.aW 1 xs.length g2),(29,.int .i64 xs.length),(30,.int .i64 (y.1:Nat))])
   (fun _=>⟨N,[]⟩) (fun y=>xs.length-y.1) (fun _=>N) (fun _=>Nat.le_refl _) ?_ ⟨0,Nat.zero_le _,by simp⟩
  rintro⟨j,hj,hq⟩;dsimp only;have e7:IntKind.i64.wrap ((j:Int)+1)=((j+1:Nat):Int):=bf (by omega);have et:=Int.toNat_natCast j;by_cases hjl:j<xs.length
  ·have hd:decide ((j:Int)<(xs.length:Int))=true:=decide_eq_true (by omega)
   have hb:(decide (0<=(j:Int))&&decide ((j:Int)<(xs.length:Int)))=true:=by simp only[Bool.and_eq_true,decide_eq_true_eq];omega
   have eg:g2 (j:Int).toNat= .int .i64 (xs[j]:Int):=by rw[et];exact OF _ hjl
   have ht:(xs.take j).length=j:=by rw[List.length_take];omega
   have cc:aj Tryz.prog 109 [.aW 1 ((j:Int).toNat-Int.toNat 0) fun i=>g2 (Int.toNat 0+i),.int .i64 (xs[j]:Int)] (.bool ((xs.take j).contains xs[j])):=L9 (by rw[ht,et];rfl) (fun i hi=>by
    rw[show Int.toNat 0+i=i from Nat.zero_add i,OF i (by omega)];simp[gA]) (by omega)
   cases hc:(xs.take j).contains xs[j]with
   |true=>
    rw[hc]at cc;iterate 60 all_goals ((try conv=>whnf);try first|(with_reducible first|refine zY ?_|refine zN ?_|refine zT ?_|refine br (fun _=> ?_) (fun _=> ?_)|refine⟨rfl,?_⟩)|(rewrite [eg])|(refine cc.call ?_))
    exact xY (by
     rw[bY,hxs];refine if_neg fun hnd=> ?_
     have:=(List.take_sublist (j+1) xs).nodup hnd;rw[List.take_add_one,List.getElem?_eq_getElem hjl,List.nodup_append]at this;exact this.2.2 _ (List.contains_iff_mem.1 hc) _ (by simp) rfl)
   |false=>
    rw[hc]at cc;iterate 60 all_goals ((try conv=>whnf);try first|(with_reducible first|refine zY ?_|refine zN ?_|refine zT ?_|refine br (fun _=> ?_) (fun _=> ?_)|refine⟨rfl,?_⟩)|(rewrite [eg])|(refine cc.call ?_))
    exact⟨⟨j+1,hjl,by
     rw[List.take_add_one,List.getElem?_eq_getElem hjl,List.nodup_append];refine⟨hq,by simp,fun a ha b hb h=> ?_⟩;simp at hb;subst hb;subst h
     rw[<- List.contains_iff_mem,hc]at ha;cases ha⟩,by dsimp only;omega,by rw[e7],rfl⟩
  ·have hd:decide ((j:Int)<(xs.length:Int))=false:=decide_eq_false (by omega)
   obtain rfl:j=xs.length:=by omega
   rw[List.take_length]at hq;iterate 30 all_goals ((try conv=>whnf);try first|(with_reducible first|refine zY ?_|refine zN ?_|refine zT ?_|refine br (fun _=> ?_) (fun _=> ?_)|refine⟨rfl,?_⟩))
   refine⟨_,rfl,?_⟩;have hR:bY l ns= .ok xs:=by rw[bY,hxs];exact if_pos hq
   rw[hR];show bA _ _ (.bn [.aW 1 (xs.map gA).length (fun j=>(xs.map gA).getD j .undef),.int .i64 0]);rw[hxl,qM];exact .lit (.bn (cP (.aW _ _ _) (.int _ _)))
end Go.Proofs.YtegmnocpkgpgeaaGreatDoor
