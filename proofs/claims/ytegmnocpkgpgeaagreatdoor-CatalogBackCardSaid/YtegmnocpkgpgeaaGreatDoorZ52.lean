/- Parts of the proof of PCatalogBack, one behind the other, with short names. -/
import Derived.Test.YtegmnocpkgpgeaaGreatDoorZ46
import Derived.Test.YtegmnocpkgpgeaaGreatDoorZ47
import Derived.Test.YtegmnocpkgpgeaaGreatDoorZ43
import Derived.Test.YtegmnocpkgpgeaaGreatDoorZ33
import Derived.Test.YtegmnocpkgpgeaaGreatDoorZ42
set_option linter.unusedVariables false
set_option linter.unusedSimpArgs false
namespace Go.Proofs.YtegmnocpkgpgeaaGreatDoor
open Ab Go.RowKit
set_option maxRecDepth 100000
set_option maxHeartbeats 4000000
attribute [local irreducible] aS bH
theorem u0(f:FuncId):aL (.func (.func f) [] []):=by
 constructor
 all_goals (intro v hv;cases hv)
theorem OP{n:Nat}{g:Nat->SV}{f:FuncId}(hf:eS Tryz.prog f=true)(hn:n<=100000)(hg: ∀i,i<n-> ∃a0 a1 a2 a3 a4:SV,g i= .agg [a0,a1,a2,a3,a4]/\cZ [a0,a1,a2,a3,a4]=true)(hc: ∀i,i<n->aj Tryz.prog f [g i,g i] (.bool true)):
  aj Tryz.prog 74 [.aW 5 n g,.aW 5 n g,.func (.func f) [] []] (.bool true):=by
 refine aG (pY (.aW _ _ _) (.aW _ _ _) (u0 _)) (U5.call mixed rfl ?_);have h1:((n:Int)!=(n:Int))=false:=by simp
 iterate 20 all_goals ((try conv=>whnf);try first|(with_reducible first|refine zY ?_|refine zN ?_|refine zT ?_|refine br (fun _=> ?_) (fun _=> ?_)|refine⟨rfl,?_⟩))
 refine dz (σ:={i:Nat // i<=n}) (fun y=>[(0,.aW 5 n g),(1,.aW 5 n g),(2,.func (.func f) [] []),(6,.bool false),(14,.bool false),(15,.aW 5 n g),(16,.int .i64 (n:Int)),(17,.int .i64 ((y.1:Nat):Int))])
  (fun _=>⟨0,[]⟩) (fun y=>n-y.1) (fun _=>0) (fun _=>Nat.le_refl 0) ?_ ⟨0,Nat.zero_le _⟩
 rintro⟨i,hi⟩;dsimp only;have e7:IntKind.i64.wrap ((i:Int)+1)=((i+1:Nat):Int):=bf (by omega);have et:=Int.toNat_natCast i;by_cases hil:i<n
 ·have hd:decide ((i:Int)<(n:Int))=true:=decide_eq_true (by omega)
  have hb:(decide (0<=(i:Int))&&decide ((i:Int)<(n:Int)))=true:=by simp only[Bool.and_eq_true,decide_eq_true_eq];omega
  obtain⟨a0,a1,a2,a3,a4,ea,oa⟩:=hg i hil;have pa:(Nat.beq [a0,a1,a2,a3,a4].length 5&&cZ [a0,a1,a2,a3,a4])=true:=oa;have cf:=hc i hil;rw[ea]at cf;rw[<- et]at ea;iterate 80 all_goals ((try conv=>whnf);try first|(with_reducible first|refine zY ?_|refine zN ?_|refine zT ?_|refine br (fun _=> ?_) (fun _=> ?_)|refine⟨rfl,?_⟩)|(refine aj.call cf ?_)|(rewrite [ea]))
  exact⟨⟨i+1,hil⟩,by dsimp only;omega,by rw[e7],rfl⟩
 ·have hd:decide ((i:Int)<(n:Int))=false:=decide_eq_false (by omega)
  obtain rfl:i=n:=by omega
  iterate 20 all_goals ((try conv=>whnf);try first|(with_reducible first|refine zY ?_|refine zN ?_|refine zT ?_|refine br (fun _=> ?_) (fun _=> ?_)|refine⟨rfl,?_⟩))
  exact leaf rfl (.bool _)
theorem Td{n:Nat}{g:Nat->SV}{f:FuncId}(hf:eS Tryz.prog f=true)(hn:n<=100000)(hg: ∀i,i<n-> ∃a0 a1 a2 a3:SV,g i= .agg [a0,a1,a2,a3]/\cZ [a0,a1,a2,a3]=true)(hc: ∀i,i<n->aj Tryz.prog f [g i,g i] (.bool true)):
  aj Tryz.prog 78 [.aW 4 n g,.aW 4 n g,.func (.func f) [] []] (.bool true):=by
 refine aG (pY (.aW _ _ _) (.aW _ _ _) (u0 _)) (Vc.call mixed rfl ?_);have h1:((n:Int)!=(n:Int))=false:=by simp
 iterate 20 all_goals ((try conv=>whnf);try first|(with_reducible first|refine zY ?_|refine zN ?_|refine zT ?_|refine br (fun _=> ?_) (fun _=> ?_)|refine⟨rfl,?_⟩))
 refine dz (σ:={i:Nat // i<=n}) (fun y=>[(0,.aW 4 n g),(1,.aW 4 n g),(2,.func (.func f) [] []),(6,.bool false),(14,.bool false),(15,.aW 4 n g),(16,.int .i64 (n:Int)),(17,.int .i64 ((y.1:Nat):Int))])
  (fun _=>⟨0,[]⟩) (fun y=>n-y.1) (fun _=>0) (fun _=>Nat.le_refl 0) ?_ ⟨0,Nat.zero_le _⟩
 rintro⟨i,hi⟩;dsimp only;have e7:IntKind.i64.wrap ((i:Int)+1)=((i+1:Nat):Int):=bf (by omega);have et:=Int.toNat_natCast i;by_cases hil:i<n
 ·have hd:decide ((i:Int)<(n:Int))=true:=decide_eq_true (by omega)
  have hb:(decide (0<=(i:Int))&&decide ((i:Int)<(n:Int)))=true:=by simp only[Bool.and_eq_true,decide_eq_true_eq];omega
  obtain⟨a0,a1,a2,a3,ea,oa⟩:=hg i hil;have pa:(Nat.beq [a0,a1,a2,a3].length 4&&cZ [a0,a1,a2,a3])=true:=oa;have cf:=hc i hil;rw[ea]at cf;rw[<- et]at ea;iterate 80 all_goals ((try conv=>whnf);try first|(with_reducible first|refine zY ?_|refine zN ?_|refine zT ?_|refine br (fun _=> ?_) (fun _=> ?_)|refine⟨rfl,?_⟩)|(refine aj.call cf ?_)|(rewrite [ea]))
  exact⟨⟨i+1,hil⟩,by dsimp only;omega,by rw[e7],rfl⟩
 ·have hd:decide ((i:Int)<(n:Int))=false:=decide_eq_false (by omega)
  obtain rfl:i=n:=by omega
  iterate 20 all_goals ((try conv=>whnf);try first|(with_reducible first|refine zY ?_|refine zN ?_|refine zT ?_|refine br (fun _=> ?_) (fun _=> ?_)|refine⟨rfl,?_⟩))
  exact leaf rfl (.bool _)
theorem Qf{g h:Nat->SV}{f:FuncId}:aj Tryz.prog 127 [.aW 9 0 g,.aW 9 0 h,.func (.func f) [] []] (.bool true):=by
 refine aG (pY (.aW _ _ _) (.aW _ _ _) (u0 _)) (Ri.call mixed rfl ?_);iterate 30 all_goals ((try conv=>whnf);try first|(with_reducible first|refine zY ?_|refine zN ?_|refine zT ?_|refine br (fun _=> ?_) (fun _=> ?_)|refine⟨rfl,?_⟩|refine dh.succ ?_|refine cz 2 ?_))
 exact leaf rfl (.bool _)
theorem MC{g h:Nat->SV}{f:FuncId}:aj Tryz.prog 129 [.aW 11 0 g,.aW 11 0 h,.func (.func f) [] []] (.bool true):=by
 refine aG (pY (.aW _ _ _) (.aW _ _ _) (u0 _)) (Rk.call mixed rfl ?_);iterate 30 all_goals ((try conv=>whnf);try first|(with_reducible first|refine zY ?_|refine zN ?_|refine zT ?_|refine br (fun _=> ?_) (fun _=> ?_)|refine⟨rfl,?_⟩|refine dh.succ ?_|refine cz 2 ?_))
 exact leaf rfl (.bool _)
theorem Te{g h:Nat->SV}{f:FuncId}:aj Tryz.prog 131 [.aW 11 0 g,.aW 11 0 h,.func (.func f) [] []] (.bool true):=by
 refine aG (pY (.aW _ _ _) (.aW _ _ _) (u0 _)) (Rl.call mixed rfl ?_);iterate 30 all_goals ((try conv=>whnf);try first|(with_reducible first|refine zY ?_|refine zN ?_|refine zT ?_|refine br (fun _=> ?_) (fun _=> ?_)|refine⟨rfl,?_⟩|refine dh.succ ?_|refine cz 2 ?_))
 exact leaf rfl (.bool _)
theorem MD{g h:Nat->SV}{f:FuncId}:aj Tryz.prog 133 [.aW 10 0 g,.aW 10 0 h,.func (.func f) [] []] (.bool true):=by
 refine aG (pY (.aW _ _ _) (.aW _ _ _) (u0 _)) (Rm.call mixed rfl ?_);iterate 30 all_goals ((try conv=>whnf);try first|(with_reducible first|refine zY ?_|refine zN ?_|refine zT ?_|refine br (fun _=> ?_) (fun _=> ?_)|refine⟨rfl,?_⟩|refine dh.succ ?_|refine cz 2 ?_))
 exact leaf rfl (.bool _)
theorem OS{g h:Nat->SV}{f:FuncId}:aj Tryz.prog 135 [.aW 11 0 g,.aW 11 0 h,.func (.func f) [] []] (.bool true):=by
 refine aG (pY (.aW _ _ _) (.aW _ _ _) (u0 _)) (Rn.call mixed rfl ?_);iterate 30 all_goals ((try conv=>whnf);try first|(with_reducible first|refine zY ?_|refine zN ?_|refine zT ?_|refine br (fun _=> ?_) (fun _=> ?_)|refine⟨rfl,?_⟩|refine dh.succ ?_|refine cz 2 ?_))
 exact leaf rfl (.bool _)
theorem OT{g h:Nat->SV}{f:FuncId}:aj Tryz.prog 125 [.aW 1 0 g,.aW 1 0 h,.func (.func f) [] []] (.bool true):=by
 refine aG (pY (.aW _ _ _) (.aW _ _ _) (u0 _)) (Rh.call mixed rfl ?_);iterate 30 all_goals ((try conv=>whnf);try first|(with_reducible first|refine zY ?_|refine zN ?_|refine zT ?_|refine br (fun _=> ?_) (fun _=> ?_)|refine⟨rfl,?_⟩|refine dh.succ ?_|refine cz 2 ?_))
 exact leaf rfl (.bool _)
theorem Hp{n:Nat}{g:Nat->SV}(hn:n<=100000)(hg: ∀i,i<n-> ∃(a:List UInt8) (k:Int) (b:Bool),g i= .agg [.str a,.int .u8 k,.bool b]):aj Tryz.prog 76 [.aW 3 n g,.aW 3 n g] (.bool true):=by
 refine aG (cP (.aW _ _ _) (.aW _ _ _)) (U8.call mixed rfl ?_);have h1:((n:Int)!=(n:Int))=false:=by simp
 iterate 20 all_goals ((try conv=>whnf);try first|(with_reducible first|refine zY ?_|refine zN ?_|refine zT ?_|refine br (fun _=> ?_) (fun _=> ?_)|refine⟨rfl,?_⟩))
 refine dz (σ:={i:Nat // i<=n}) (fun y=>[(0,.aW 3 n g),(1,.aW 3 n g),(4,.bool false),(10,.bool false),(12,.int .i64 (n:Int)),(13,.int .i64 ((y.1:Nat):Int))])
  (fun _=>⟨0,[]⟩) (fun y=>n-y.1) (fun _=>0) (fun _=>Nat.le_refl 0) ?_ ⟨0,Nat.zero_le _⟩
 rintro⟨i,hi⟩;dsimp only;have e7:IntKind.i64.wrap ((i:Int)+1)=((i+1:Nat):Int):=bf (by omega);have et:=Int.toNat_natCast i;by_cases hil:i<n
 ·have hd:decide ((i:Int)<(n:Int))=true:=decide_eq_true (by omega)
  have hb:(decide (0<=(i:Int))&&decide ((i:Int)<(n:Int)))=true:=by simp only[Bool.and_eq_true,decide_eq_true_eq];omega
  obtain⟨a,k,b,ea⟩:=hg i hil;rw[<- et]at ea;have h2:(a==a)=true:=beq_self_eq_true a;have h3:(k==k)=true:=beq_self_eq_true k;have h4:(b==b)=true:=beq_self_eq_true b;have h5:(!(fun q=>a==a&&q) ((fun q=>k==k&&q) (b==b)))=false:=by simp
  iterate 80 all_goals ((try conv=>whnf);try first|(with_reducible first|refine zY ?_|refine zN ?_|refine zT ?_|refine br (fun _=> ?_) (fun _=> ?_)|refine⟨rfl,?_⟩)|(rewrite [ea]))
  exact⟨⟨i+1,hil⟩,by dsimp only;omega,by rw[e7],rfl⟩
 ·have hd:decide ((i:Int)<(n:Int))=false:=decide_eq_false (by omega)
  obtain rfl:i=n:=by omega
  iterate 20 all_goals ((try conv=>whnf);try first|(with_reducible first|refine zY ?_|refine zN ?_|refine zT ?_|refine br (fun _=> ?_) (fun _=> ?_)|refine⟨rfl,?_⟩))
  exact leaf rfl (.bool _)
theorem Hq{n:Nat}{g:Nat->SV}(hn:n<=100000)(hg: ∀i,i<n-> ∃(k:Int),g i= .int .i64 k):aj Tryz.prog 77 [.aW 1 n g,.aW 1 n g] (.bool true):=by
 refine aG (cP (.aW _ _ _) (.aW _ _ _)) (Vb.call mixed rfl ?_);have h1:((n:Int)!=(n:Int))=false:=by simp
 iterate 20 all_goals ((try conv=>whnf);try first|(with_reducible first|refine zY ?_|refine zN ?_|refine zT ?_|refine br (fun _=> ?_) (fun _=> ?_)|refine⟨rfl,?_⟩))
 refine dz (σ:={i:Nat // i<=n}) (fun y=>[(0,.aW 1 n g),(1,.aW 1 n g),(4,.bool false),(10,.bool false),(12,.int .i64 (n:Int)),(13,.int .i64 ((y.1:Nat):Int))])
  (fun _=>⟨0,[]⟩) (fun y=>n-y.1) (fun _=>0) (fun _=>Nat.le_refl 0) ?_ ⟨0,Nat.zero_le _⟩
 rintro⟨i,hi⟩;dsimp only;have e7:IntKind.i64.wrap ((i:Int)+1)=((i+1:Nat):Int):=bf (by omega);have et:=Int.toNat_natCast i;by_cases hil:i<n
 ·have hd:decide ((i:Int)<(n:Int))=true:=decide_eq_true (by omega)
  have hb:(decide (0<=(i:Int))&&decide ((i:Int)<(n:Int)))=true:=by simp only[Bool.and_eq_true,decide_eq_true_eq];omega
  obtain⟨k,ea⟩:=hg i hil;rw[<- et]at ea;have h2:(k !=k)=false:=by simp
  iterate 80 all_goals ((try conv=>whnf);try first|(with_reducible first|refine zY ?_|refine zN ?_|refine zT ?_|refine br (fun _=> ?_) (fun _=> ?_)|refine⟨rfl,?_⟩)|(rewrite [ea]))
  exact⟨⟨i+1,hil⟩,by dsimp only;omega,by rw[e7],rfl⟩
 ·have hd:decide ((i:Int)<(n:Int))=false:=decide_eq_false (by omega)
  obtain rfl:i=n:=by omega
  iterate 20 all_goals ((try conv=>whnf);try first|(with_reducible first|refine zY ?_|refine zN ?_|refine zT ?_|refine br (fun _=> ?_) (fun _=> ?_)|refine⟨rfl,?_⟩))
  exact leaf rfl (.bool _)
theorem Hr{n:Nat}{g:Nat->SV}(hn:n<=100000)(hg: ∀i,i<n-> ∃(a:List UInt8),g i= .str a):aj Tryz.prog 124 [.aW 1 n g,.aW 1 n g] (.bool true):=by
 refine aG (cP (.aW _ _ _) (.aW _ _ _)) (Rg.call mixed rfl ?_);have h1:((n:Int)!=(n:Int))=false:=by simp
 iterate 20 all_goals ((try conv=>whnf);try first|(with_reducible first|refine zY ?_|refine zN ?_|refine zT ?_|refine br (fun _=> ?_) (fun _=> ?_)|refine⟨rfl,?_⟩))
 refine dz (σ:={i:Nat // i<=n}) (fun y=>[(0,.aW 1 n g),(1,.aW 1 n g),(4,.bool false),(10,.bool false),(12,.int .i64 (n:Int)),(13,.int .i64 ((y.1:Nat):Int))])
  (fun _=>⟨0,[]⟩) (fun y=>n-y.1) (fun _=>0) (fun _=>Nat.le_refl 0) ?_ ⟨0,Nat.zero_le _⟩
 rintro⟨i,hi⟩;dsimp only;have e7:IntKind.i64.wrap ((i:Int)+1)=((i+1:Nat):Int):=bf (by omega);have et:=Int.toNat_natCast i;by_cases hil:i<n
 ·have hd:decide ((i:Int)<(n:Int))=true:=decide_eq_true (by omega)
  have hb:(decide (0<=(i:Int))&&decide ((i:Int)<(n:Int)))=true:=by simp only[Bool.and_eq_true,decide_eq_true_eq];omega
  obtain⟨a,ea⟩:=hg i hil;rw[<- et]at ea;have h2:(!a==a)=false:=by simp
  iterate 80 all_goals ((try conv=>whnf);try first|(with_reducible first|refine zY ?_|refine zN ?_|refine zT ?_|refine br (fun _=> ?_) (fun _=> ?_)|refine⟨rfl,?_⟩)|(rewrite [ea]))
  exact⟨⟨i+1,hil⟩,by dsimp only;omega,by rw[e7],rfl⟩
 ·have hd:decide ((i:Int)<(n:Int))=false:=decide_eq_false (by omega)
  obtain rfl:i=n:=by omega
  iterate 20 all_goals ((try conv=>whnf);try first|(with_reducible first|refine zY ?_|refine zN ?_|refine zT ?_|refine br (fun _=> ?_) (fun _=> ?_)|refine⟨rfl,?_⟩))
  exact leaf rfl (.bool _)
structure Xb(t:Tb):Prop where
 aq:t.aq.length<=1000
 key:t.key.length<=1000
 idx:t.idx.length<=1000
 ix: ∀x∈t.idx,x.aq.length<=1000
theorem tj: ∀ {k i:Nat} {xs:List Ix} (h:i<xs.length),(j4 k xs)[i]? =some (Jg (k+i) xs[i])
 |k,0,t::r,h=>rfl
 |k,i+1,t::r,h=>by
  have:=tj (k:=k+1) (i:=i) (xs:=r) (by simpa using h);rw[show k+(i+1)=k+1+i by omega];exact this
theorem ints_at{xs:List Nat}: ∀i,i<(xs.map gA).length-> ∃k:Int,(fun j=>(xs.map gA).getD j .undef) i= .int .i64 k:=fun i hi=>⟨_,ji i (by rw[List.length_map]at hi;exact hi)⟩
theorem D2{cs:List fH}: ∀i,i<(cs.map gQ).length-> ∃(a:List UInt8) (k:Int) (b:Bool),(fun j=>(cs.map gQ).getD j .undef) i= .agg [.str a,.int .u8 k,.bool b]:=fun i hi=>⟨_,_,_,ji i (by rw[List.length_map]at hi;exact hi)⟩
theorem Jp{k:Nat}{x:Ix}(hx:x.aq.length<=1000):aj Tryz.prog 79 [Jg k x,Jg k x] (.bool true):=by
 have c:=Hq (n:=(x.aq.map gA).length) (g:=fun j=>(x.aq.map gA).getD j .undef) (by rw[List.length_map];omega) ints_at;have q1:(x.nm==x.nm)=true:=beq_self_eq_true _;have q2:((k:Int)==(k:Int))=true:=beq_self_eq_true _;have q3:(x.To==x.To)=true:=beq_self_eq_true _;refine aG (cP (.agg (dP rfl)) (.agg (dP rfl))) (Vd.call mixed rfl ?_);iterate 60 all_goals ((try conv=>whnf);try first|(with_reducible first|refine zY ?_|refine zN ?_|refine zT ?_|refine br (fun _=> ?_) (fun _=> ?_)|refine⟨rfl,?_⟩)|(refine c.call ?_))
 exact leaf rfl (.bool _)
theorem Jq{k:Nat}{t:Tb}(ht:Xb t):aj Tryz.prog 75 [BB k t,BB k t] (.bool true):=by
 have c1:=Hp (n:=(t.aq.map gQ).length) (g:=fun j=>(t.aq.map gQ).getD j .undef) (by rw[List.length_map];have:=ht.aq;omega) D2;have c2:=Hq (n:=(t.key.map gA).length) (g:=fun j=>(t.key.map gA).getD j .undef) (by rw[List.length_map];have:=ht.key;omega) ints_at
 have c3:=Td (f:=79) (n:=(j4 1 t.idx).length) (g:=fun j=>(j4 1 t.idx).getD j .undef) rfl (by rw[jl];have:=ht.idx;omega) (fun i hi=>by
  rw[jl]at hi;exact⟨_,_,_,_,by rw[List.getD,tj hi];rfl,rfl⟩) fun i hi=>by
  rw[jl]at hi;show aj _ _ [(j4 1 t.idx).getD i .undef,(j4 1 t.idx).getD i .undef] _;rw[List.getD,tj hi];exact Jp (ht.ix _ (List.getElem_mem hi))
 have q1:(t.nm==t.nm)=true:=beq_self_eq_true _;have q2:((k:Int)==(k:Int))=true:=beq_self_eq_true _;refine aG (cP (.agg (dP rfl)) (.agg (dP rfl))) (U6.call mixed rfl ?_);iterate 80 all_goals ((try conv=>whnf);try first|(with_reducible first|refine zY ?_|refine zN ?_|refine zT ?_|refine br (fun _=> ?_) (fun _=> ?_)|refine⟨rfl,?_⟩)|(refine c1.call ?_)|(refine c2.call ?_)|(refine c3.call ?_))
 exact leaf rfl (.bool _)
theorem ME{c:List Tb}(hc:c.length<=1000)(h: ∀t∈c,Xb t):aj Tryz.prog 35 [qf c,qf c] (.bool true):=by
 have c1:=OP (f:=75) (n:=(oP 1 c).length) (g:=fun j=>(oP 1 c).getD j .undef) rfl (by rw[jk];omega) (fun i hi=>by
  rw[jk]at hi;exact⟨_,_,_,_,_,by rw[List.getD,oQ hi];rfl,rfl⟩) fun i hi=>by
  rw[jk]at hi;show aj _ _ [(oP 1 c).getD i .undef,(oP 1 c).getD i .undef] _;rw[List.getD,oQ hi];exact Jq (h _ (List.getElem_mem hi))
 refine aG (cP (.agg (dP rfl)) (.agg (dP rfl))) (UC.call mixed rfl ?_);iterate 60 all_goals ((try conv=>whnf);try first|(with_reducible first|refine zY ?_|refine zN ?_|refine zT ?_|refine br (fun _=> ?_) (fun _=> ?_)|refine⟨rfl,?_⟩)|(refine c1.call ?_))
 exact leaf rfl (.bool _)
@[reducible] def qH (b:Bool) (v:SV):ai:= .vec 0 2 [.agg [v,.bool b]] ⟨false,some 146⟩
theorem Bv(b:Bool):p9 (qH b):=YG (pre:=[]) (post:=[.bool b]) (fun _ h=>by simp at h) (fun a h=>by simp at h;subst h;exact .bool _)
@[reducible] def D3 (x:Tk):SV:=iF (x,0)
@[reducible] def WC (f:FuncId) (us:List SV) (b b':Bool) (xs ys:List Tk):Prop:=ry Tryz.prog f us 4 176 (qH b) (qH b') (xs.map D3) (ys.map D3)
theorem tn(xs:List Tk): ∀v∈xs.map D3,aL v:=fun v h=>by obtain⟨x,_,rfl⟩:=List.mem_map.1 h;exact nZ _
theorem YP{s:List UInt8}(h:s≠[])(h2:(97<=(s.getD 0 0).toNat/\(s.getD 0 0).toNat<=122)\/(s.getD 0 0).toNat=95):(⟨1,s,0⟩:Tk)=aZ s:=by
 unfold aZ SX;rw[if_pos ⟨h,h2⟩]
theorem Tp{s:List UInt8}(h:s=[]\/ ¬((97<=(s.getD 0 0).toNat/\(s.getD 0 0).toNat<=122)\/(s.getD 0 0).toNat=95)):(⟨4,s,0⟩:Tk)=aZ s:=by
 unfold aZ SX;rw[if_neg fun⟨a,b⟩=>h.elim a fun h=>h b]
theorem yh{ws:List (List UInt8)}{i:Nat}(h:i<ws.length){t:Tk}(ht:t=aZ (ws.getD i [])):(ws.take (i+1)).map aZ=(ws.take i).map aZ++[t]:=by
 rw[List.take_add_one,List.map_append,ht];simp[List.getD,h]
@[reducible] def vQ (g:Nat) (xs:List Tk):ai:= .vec g 4 (xs.map D3) ⟨true,some 176⟩
theorem nz{s:List UInt8}(h:(!s==[])=true)(h2:(decide ((0:Int)<=0)&&decide ((0:Int)<(s.length:Int)))=false):False:=by
 cases s with
 |nil=>simp at h
 |cons a r=>simp at h2
inductive tB(ws:List (List UInt8)) where
 |E
 |L (i g:Nat) (hi:i<ws.length)
@[reducible] def tB.at_ {ws:List (List UInt8)}:tB ws->Nat
  | .E=>0
  | .L i _ _=>i+1
@[reducible] def tB.hp {ws:List (List UInt8)} (b:Bool):tB ws->Heap
  | .E=>⟨1,[(0,qH b .af)]⟩
  | .L i g _=>⟨3,[(2,vQ g ((ws.take (i+1)).map aZ)),(1,.vec 0 4 [D3 (aZ (ws.getD 0 []))] ⟨false,some 176⟩),(0,qH b (.sl 2 g 4 0 ((ws.take (i+1)).map aZ).length none))]⟩
theorem YQ{ws:List (List UInt8)}{b:Bool}{k:Int}(hi:0<ws.length)(h:(⟨k,ws.getD 0 [],0⟩:Tk)=aZ (ws.getD 0 [])):
  (⟨3,[(2,.vec 0 4 [iF (⟨k,ws.getD 0 [],0⟩,0)] ⟨true,some 176⟩),(1,.vec 0 4 [iF (⟨k,ws.getD 0 [],0⟩,0)] ⟨false,some 176⟩),(0,qH b (.sl 2 0 4 0 1 none))]⟩:Heap)=tB.hp b (.L 0 0 hi):=by
 have e:=yh hi h;rw[List.take_zero,List.map_nil,List.nil_append]at e;unfold tB.hp;dsimp only;rw[e,<-h];rfl
theorem YR{ws:List (List UInt8)}{b:Bool}{k:Int}{i g:Nat}(hi:i+1<ws.length)(h:(⟨k,ws.getD (i+1) [],0⟩:Tk)=aZ (ws.getD (i+1) [])):
  (⟨3,[(2,.vec (g+1) 4 (((ws.take (i+1)).map aZ).map D3++[iF (⟨k,ws.getD (i+1) [],0⟩,0)]) ⟨true,some 176⟩),(1,.vec 0 4 [D3 (aZ (ws.getD 0 []))] ⟨false,some 176⟩),(0,qH b (.sl 2 (g+1) 4 0 (((ws.take (i+1)).map aZ).length+1) none))]⟩:Heap)=tB.hp b (.L (i+1) (g+1) hi):=by
 have e:=yh hi h;unfold tB.hp vQ;dsimp only;rw[e,List.map_append,List.length_append];rfl
def kU(xs:List Tk)(ws:List (List UInt8)):Nat->List Tk
 |0=>xs
 |i+1=>kU xs ws i++[aZ (ws.getD i [])]
theorem Aa(xs:List Tk)(ws:List (List UInt8)): ∀i,i<=ws.length->kU xs ws i=xs++(ws.take i).map aZ
 |0,_=>by simp[kU]
 |i+1,h=>by rw[kU,Aa xs ws i (by omega),yh h rfl,List.append_assoc]
theorem Wi{ws:List (List UInt8)}{b:Bool}{k:Int}{i g n:Nat}{xs:List Tk}(h:(⟨k,ws.getD i [],0⟩:Tk)=aZ (ws.getD i []))(hn:n=(kU xs ws i).length):
  (⟨2,[(1,.vec (g+1) 4 ((kU xs ws i).map D3++[iF (⟨k,ws.getD i [],0⟩,0)]) ⟨true,some 176⟩),(0,qH b (.sl 1 (g+1) 4 0 (n+1) none))]⟩:Heap)=
    ⟨2,[(1,vQ (g+1) (kU xs ws (i+1))),(0,qH b (.sl 1 (g+1) 4 0 (kU xs ws (i+1)).length none))]⟩:=by
 subst hn;unfold vQ;rw[h,kU,List.map_append,List.length_append];rfl
theorem ZI{n:Nat}{xs:List Tk}{y:TP}: ∀v∈xs.map D3++[iF y],SV.lt 8 n v=true:=by
 intro v hv;rcases List.mem_append.1 hv with hv|hv
 ·obtain⟨b,_,rfl⟩:=List.mem_map.1 hv;rfl
 ·rw[List.mem_singleton.1 hv];rfl
theorem MF{n:Nat}{xs:List Tk}: ∀v∈xs.map D3,SV.lt 8 n v=true:=by
 intro v hv;obtain⟨b,_,rfl⟩:=List.mem_map.1 hv;rfl
theorem Hs{m i g n:Nat}{vs:List SV}{v:TP}{sk:Sk}{l:List (Nat×ai)}{k:SV->Heap->Prop}(ho:ak l i=some (.vec g 4 vs ⟨true,some 176⟩))(hn:n=vs.length)(tv:i<m)(hlen:vs.length<=100000)
  (hk:k (.sl i (g+1) 4 0 (n+1) none) ⟨m+1,(m,.vec 0 4 [(iF v)] sk)::bt l i (.vec (g+1) 4 (vs++[iF v]) ⟨true,some 176⟩)⟩):
  aS 176 4 40 ⟨m+1,(m,.vec 0 4 [(iF v)] sk)::l⟩ (.sl i g 4 0 n none) (.sl m 0 4 0 1 (some 1)) k:=by
 subst hn;refine nY (iO dD rfl) (by simp) rfl (by rw[aU (by omega)];exact ho) (by simp) (by simp;omega) (by simp;omega) ?_;rw[cL];unfold bt;rw[if_neg (by omega),kF];exact hk
theorem Ht{ws:List (List UInt8)}{b:Bool}{xs:List Tk}(hw:ws.length<=1000)(hx:xs.length<=60000):WC 111 [o5 ws] b b xs (xs++ws.map aZ):=by
 refine⟨di (.aW ..),Bv b,Bv b,tn _,tn _,fun h hh=> ?_⟩;cases hxs:xs with
 |nil=>
  subst hxs;cases hh
  refine KB.call mixed rfl ?_;iterate 10 all_goals ((try conv=>whnf);try first|(with_reducible first|refine zY ?_|refine zN ?_|refine zT ?_|refine br (fun _=> ?_) (fun _=> ?_)|refine⟨rfl,?_⟩))
  refine dz (σ:=tB ws) (fun y=>[(0,SV.ref 0 0 0 0),(1,o5 ws),(7,o5 ws),(8,SV.int IntKind.i64 ws.length),(9,SV.int IntKind.i64 y.at_)])
   (tB.hp b) (fun y=>ws.length-y.at_) (fun y=>3) (fun y=>match y with| .E=>(by show 1<=3;decide)| .L .. =>Nat.le_refl 3) ?_ .E
  rintro(_|⟨i,g,hi⟩)
  ·rcases Nat.eq_zero_or_pos ws.length with hz|hil
   ·obtain rfl:ws=[]:=List.eq_nil_of_length_eq_zero hz
    iterate 20 all_goals ((try conv=>whnf);try first|(with_reducible first|refine zY ?_|refine zN ?_|refine zT ?_|refine br (fun _=> ?_) (fun _=> ?_)|refine⟨rfl,?_⟩))
    exact rfl
   ·have hd:decide ((((tB.E:tB ws).at_:Nat):Int)<(ws.length:Int))=true:=decide_eq_true (by show(0:Int)<_;omega)
    have e7:IntKind.i64.wrap ((((tB.E:tB ws).at_:Nat):Int)+1)=((0+1:Nat):Int):=by rw[show (tB.E:tB ws).at_=0 from rfl];decide
    iterate 60 all_goals ((try conv=>whnf);try first|(with_reducible first|refine zY ?_|refine zN ?_|refine zT ?_|refine br (fun _=> ?_) (fun _=> ?_)|refine⟨rfl,?_⟩)|(refine C4 (v:=(⟨_,ws.getD 0 [],0⟩,0)) ?_))
    all_goals first
     |exact nz (by assumption) (by assumption)
     |(refine⟨.L 0 0 hil,by show ws.length-1<ws.length-0;omega,by rw[e7],YQ hil ?_⟩
       simp only[tB.at_,Int.toNat_natCast,Int.toNat_zero,Bool.not_eq_true',Bool.not_eq_false',beq_eq_false_iff_ne,decide_eq_true_eq,decide_eq_false_iff_not,Bool.and_eq_true,beq_iff_eq]at*
       first|(refine YP ?_ ?_;assumption;omega)|(refine Tp (.inl ?_);assumption)|(refine Tp (.inr ?_);omega))
  ·have e6:(tB.L i g hi).at_=i+1:=rfl
   have qg:Nat.beq g g=true:=cC g;by_cases hil:i+1<ws.length
   ·have hd:decide ((((tB.L i g hi).at_:Nat):Int)<(ws.length:Int))=true:=decide_eq_true (by rw[e6];omega)
    have hb:(decide ((0:Int)<=(((tB.L i g hi).at_:Nat):Int))&&decide ((((tB.L i g hi).at_:Nat):Int)<(ws.length:Int)))=true:=by rw[e6];simp only[Bool.and_eq_true,decide_eq_true_eq];omega
    have e7:IntKind.i64.wrap ((((tB.L i g hi).at_:Nat):Int)+1)=((i+1+1:Nat):Int):=bf (by rw[e6];omega);iterate 60 all_goals ((try conv=>whnf);try first|(with_reducible first|refine zY ?_|refine zN ?_|refine zT ?_|refine br (fun _=> ?_) (fun _=> ?_)|refine⟨rfl,?_⟩)|(refine Hs (v:=(⟨_,ws.getD (i+1) [],0⟩,0)) rfl (by simp) (by decide) (by simp;omega) ?_)|(refine au ZI ?_)|(refine au (fN rfl) ?_))
    all_goals first
     |exact nz (by assumption) (by assumption)
     |(refine⟨.L (i+1) (g+1) hil,by show ws.length-(i+1+1)<ws.length-(i+1);omega,by rw[e7],YR hil ?_⟩
       simp only[tB.at_,Int.toNat_natCast,Int.toNat_zero,Bool.not_eq_true',Bool.not_eq_false',beq_eq_false_iff_ne,decide_eq_true_eq,decide_eq_false_iff_not,Bool.and_eq_true,beq_iff_eq]at*
       first|(refine YP ?_ ?_;assumption;omega)|(refine Tp (.inl ?_);assumption)|(refine Tp (.inr ?_);omega))
   ·have hd:decide ((((tB.L i g hi).at_:Nat):Int)<(ws.length:Int))=false:=decide_eq_false (by rw[e6];omega)
    have ht:ws.take (i+1)=ws:=List.take_of_length_le (by omega);have h2:tB.hp b (tB.L i g hi)=⟨3,[(2,vQ g (ws.map aZ)),(1,.vec 0 4 [D3 (aZ (ws.getD 0 []))] ⟨false,some 176⟩),(0,qH b (.sl 2 g 4 0 (ws.map aZ).length none))]⟩:=by unfold tB.hp;dsimp only;rw[ht]
    rw[h2];iterate 20 all_goals ((try conv=>whnf);try first|(with_reducible first|refine zY ?_|refine zN ?_|refine zT ?_|refine br (fun _=> ?_) (fun _=> ?_)|refine⟨rfl,?_⟩))
    exact WE.E (by simp;intro h;rw[h]at hi;simp at hi) (by decide) (by simp) rfl rfl
 |cons x xr=>
  subst hxs;cases hh
  rename_i g0;refine KB.call mixed rfl ?_;iterate 10 all_goals ((try conv=>whnf);try first|(with_reducible first|refine zY ?_|refine zN ?_|refine zT ?_|refine br (fun _=> ?_) (fun _=> ?_)|refine⟨rfl,?_⟩))
  rw[List.length_map]
  refine dz (σ:={i:Nat // i<=ws.length}×Nat) (fun y=>[(0,SV.ref 0 0 0 0),(1,o5 ws),(7,o5 ws),(8,SV.int IntKind.i64 ws.length),(9,SV.int IntKind.i64 y.1.1)])
   (fun y=>⟨2,[(1,vQ y.2 (kU (x::xr) ws y.1.1)),(0,qH b (.sl 1 y.2 4 0 (kU (x::xr) ws y.1.1).length none))]⟩) (fun y=>ws.length-y.1.1) (fun y=>2) (fun y=>Nat.le_refl 2) ?_ (⟨0,Nat.zero_le _⟩,g0)
  rintro⟨⟨i,hi⟩,g⟩;dsimp only
  ·skip
   have qg:Nat.beq g g=true:=cC g;have hr:=Aa (x::xr) ws i hi;have hrl:(kU (x::xr) ws i).length<=61000:=by rw[hr];simp at hx ⊢;omega
   by_cases hil:i<ws.length
   ·have hd:decide ((i:Int)<(ws.length:Int))=true:=decide_eq_true (by omega)
    have hb:(decide ((0:Int)<=(i:Int))&&decide ((i:Int)<(ws.length:Int)))=true:=by simp only[Bool.and_eq_true,decide_eq_true_eq];omega
    have e7:IntKind.i64.wrap ((i:Int)+1)=((i+1:Nat):Int):=bf (by omega);iterate 60 all_goals ((try conv=>whnf);try first|(with_reducible first|refine zY ?_|refine zN ?_|refine zT ?_|refine br (fun _=> ?_) (fun _=> ?_)|refine⟨rfl,?_⟩)|(refine Hs (v:=(⟨_,ws.getD i [],0⟩,0)) rfl (by simp) (by decide) (by simp;omega) ?_)|(refine au ZI ?_)|(refine au (fN rfl) ?_))
    all_goals first
     |exact nz (by assumption) (by assumption)
     |(refine⟨(⟨i+1,hil⟩,g+1),by show ws.length-(i+1)<ws.length-i;omega,by rw[e7],Wi ?_ rfl⟩
       simp only[tB.at_,Int.toNat_natCast,Int.toNat_zero,Bool.not_eq_true',Bool.not_eq_false',beq_eq_false_iff_ne,decide_eq_true_eq,decide_eq_false_iff_not,Bool.and_eq_true,beq_iff_eq]at*
       first|(refine YP ?_ ?_;assumption;omega)|(refine Tp (.inl ?_);assumption)|(refine Tp (.inr ?_);omega))
   ·have hd:decide ((i:Int)<(ws.length:Int))=false:=decide_eq_false (by omega)
    rw[hr,show ws.take i=ws from List.take_of_length_le (by omega)];iterate 20 all_goals ((try conv=>whnf);try first|(with_reducible first|refine zY ?_|refine zN ?_|refine zT ?_|refine br (fun _=> ?_) (fun _=> ?_)|refine⟨rfl,?_⟩))
    exact WE.L (x:=D3 x) (xs:=xr.map D3) (by simp) rfl rfl
end Go.Proofs.YtegmnocpkgpgeaaGreatDoor
