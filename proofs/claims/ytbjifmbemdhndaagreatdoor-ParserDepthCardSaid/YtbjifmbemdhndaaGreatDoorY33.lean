/- Parts of the proof of PParserDepth, one behind the other, with short names. -/
import Derived.Test.YtbjifmbemdhndaaGreatDoorY32
import Derived.Test.YtbjifmbemdhndaaGreatDoorY31
import Derived.Test.YtbjifmbemdhndaaGreatDoorY28
set_option linter.unusedVariables false
set_option linter.unusedSimpArgs false
namespace Go.Proofs.YtbjifmbemdhndaaGreatDoor
open Ab Go.RowKit
set_option maxRecDepth 100000
set_option maxHeartbeats 4000000
section
def vF:List TI->Nat->Option Nat
 | [],_=>none
 |x::r,i=>if iW x then vF r (i+1)else some i
theorem wT: ∀ {l:List TI} {i:Nat},vF l i=none-> ∀x∈l,iW x=true
 | [],_,_=>by simp
 |x::r,i,h=>by
  rw[vF]at h;split at h
  ·rename_i hx
   simp only[List.mem_cons];rintro y (rfl|hy)
   ·exact hx
   ·exact wT h y hy
  ·cases h
theorem Ei: ∀(l:List TI) (k i:Nat),i<l.length->(∀ j,j<i->iW (l.getD j l9)=true)->iW (l.getD i l9)=false->vF l k=some (k+i)
 | [],_,_,h,_,_=>by simp at h
 |x::r,k,0,_,_,h=>by
  rw[vF,if_neg (by rw[show iW x=false from h];decide)];rfl
 |x::r,k,i+1,hi,h1,h2=>by
  rw[vF,if_pos (show iW x=true from h1 0 (by omega)),Ei r (k+1) i (by simpa using hi) (fun j hj=>h1 (j+1) (by omega)) h2];congr 1
  omega
theorem uN: ∀(l:List TI) (k:Nat),(∀ j,j<l.length->iW (l.getD j l9)=true)->vF l k=none
 | [],_,_=>rfl
 |x::r,k,h=>by
  rw[vF,if_pos (show iW x=true from h 0 (by simp)),uN r (k+1) fun j hj=>h (j+1) (by simpa using hj)]
def uO(l:List TI):SV:=match vF l 0 with
 |some i=> .aN [.str [],l7 2 i]
 |none=> .aN [.str (di (l.map (·.1))),l7 0 0]
theorem wU(l:List TI):bA (uO l):=by
 have hf: ∀e a:Int,bA (l7 e a):=fun e a=> .agg (by simp only[List.mem_cons,List.not_mem_nil,or_false];rintro _ (rfl|rfl)<;>constructor)
 unfold uO;split<;>exact vA (.str _) (hf _ _)
theorem pV: ∀l:List Tk,Lib.join (l.map cu) [32]=di l
 | []=>rfl
 | [x]=>by simp[Lib.join,di,List.intercalate]
 |x::y::r=>by
  rw[di,<-pV (y::r)];simp[Lib.join,List.intercalate]
theorem Ej: ∀(k n:Nat),n<10^(k+1)->(Lib.decDigits n).length<=k+1
 |0,n,h=>by rw[Lib.decDigits,dif_pos (by simpa using h)];simp
 |k+1,n,h=>by
  rw[Lib.decDigits];split
  ·simp
  ·have:=Ej k (n/10) (by rw[Nat.pow_succ]at h;omega)
   simp only[List.length_append,List.length_cons,List.length_nil];omega
theorem uP{x:Tk}(h:dh x=true):(cu x).length<=65536/\x.t.length<=65536/\(x.k=3->x.t.length<=64):=by
 unfold dh at h;split at h
 ·cases h
 ·split at h
  ·rename_i h2
   simp only[Bool.and_eq_true,beq_iff_eq,decide_eq_true_eq]at h;have hs:cu x=Lib.decDigits x.n:=by unfold cu;rw[if_pos h2]
   have:=Ej 19 x.n (by omega);refine⟨by rw[hs];omega,by rw[h.1];simp,fun h3=>by omega⟩
  ·rename_i h2
   split at h
   ·cases h
   ·rename_i h3
    split at h
    ·cases h
    ·rename_i h4
     refine⟨by omega,?_,fun hk=>by have: ¬64<x.t.length:=fun h'=>h3 ⟨hk,.inl h'⟩;omega⟩;by_cases hk:x.k=3
     ·have: ¬64<x.t.length:=fun h'=>h3 ⟨hk,.inl h'⟩
      omega
     ·have:cu x=x.t:=by unfold cu;rw[if_neg h2,if_neg hk]
      rw[<- this];omega
theorem Jq{x:Tk}(h:dh x=true):x.n<18446744073709551616/\x.t.length<=9223372036854775807:=by
 have hl:=(uP h).2.1;refine⟨?_,by omega⟩;unfold dh at h;split at h
 ·cases h
 ·rename_i h1
  split at h
  ·simp only[Bool.and_eq_true,beq_iff_eq,decide_eq_true_eq]at h;omega
  ·rename_i h2
   have:x.n=0:=by
    rcases Nat.eq_zero_or_pos x.n with h0|h0
    ·exact h0
    ·exact absurd (.inl ⟨h2,by omega⟩) h1
   omega
attribute [local irreducible] aO bx o9
@[reducible] def lA (l:List TI) (i:Nat):List SV:=((l.take i).map fun x=>SV.str (cu x.1))++List.replicate (l.length-i) (SV.str [])
theorem Fy{l:List TI}{i:Nat}(h:i<l.length):(lA l i)[0+i]? =some (SV.str []):=by
 have h1:((l.take i).map fun x=>SV.str (cu x.1)).length=i:=by simp;omega
 rw[Nat.zero_add];unfold lA;rw[List.getElem?_append_right (by omega),h1,Nat.sub_self,List.getElem?_replicate,if_pos (by omega)]
theorem wV{l:List TI}{i:Nat}(h:i<l.length):(lA l i).set (0+i) (SV.str (cu (l.getD i l9).1))=lA l (i+1):=by
 have h1:((l.take i).map fun x=>SV.str (cu x.1)).length=i:=by simp;omega
 rw[Nat.zero_add];unfold lA;have e:List.replicate (l.length-i) (SV.str [])=SV.str []::List.replicate (l.length-(i+1)) (SV.str []):=by rw[show l.length-i=(l.length-(i+1))+1 by omega];rfl
 have e2:l.take (i+1)=l.take i++[l.getD i l9]:=by rw[List.take_add_one];simp[List.getD,h]
 rw[List.set_append_right _ _ (by omega),h1,Nat.sub_self,e,List.set_cons_zero,e2,List.map_append,List.append_assoc];rfl
theorem AG: ∀(s:List (List UInt8)) (k:Nat) (get:Nat->SV),(∀ j,j<s.length->get (k+j)=SV.str (s.getD j []))->agree (s.map SV.str) k get
 | [],_,_,_=>trivial
 |b::r,k,get,h=>by
  refine⟨?_,.str _,AG r (k+1) get fun j hj=> ?_⟩
  ·have:=h 0 (by simp)
   simpa using this.symm
  ·have:=h (j+1) (by simp;omega)
   rw[show k+1+j=k+(j+1) by omega,this];simp[List.getD]
theorem oB{A:Heap}{i g:Nat}{cap:Option Nat}{s:List (List UInt8)}{n:Nat}{sk:Sk}(ho:A.obj i=some (.vec g 1 (s.map SV.str) sk))(hn:n=s.length):cA A (.sl i g 1 0 n cap) (nj s):=by
 subst hn;have:=uk (cap:=cap) (get:=fun i=>SV.str (s.getD i [])) ho (AG s 0 _ fun j _=>by rw[Nat.zero_add]);rw[List.length_map]at this;exact this
theorem QD{n:Nat}{l:List TI}{i:Nat}: ∀v∈lA l i,SV.lt 8 n v=true:=by
 intro v hv;rcases List.mem_append.1 hv with h|h
 ·obtain⟨b,_,rfl⟩:=List.mem_map.1 h;rfl
 ·rw[List.eq_of_mem_replicate h];rfl
theorem AH{x:TI}(h:iW x=true):dh x.1=true:=by
 unfold iW at h;simp only[Bool.and_eq_true]at h;exact h.2
theorem HL{l:List TI}(hl:l.length<=5000)(hin: ∀x∈l,x.1.n<18446744073709551616/\x.1.t.length<=9223372036854775807):au Tryz.prog 25 [Cp l] (uO l):=by
 refine bu (bK (.eR _ _ _)) (Kz.call mixed rfl ?_)
 have q1:(decide (0<=(l.length:Int))&&decide ((l.length:Int)<=(l.length:Int))&&decide (((16:Nat):Int)*(l.length:Int)<=140737488355328)&&decide ((l.length:Int)<=9223372036854775807))=true:=by
  simp only[Bool.and_eq_true,decide_eq_true_eq];omega
 iterate 10 all_goals ((try conv=>whnf);try first|(with_reducible first|refine zY ?_|refine zN ?_|refine zT ?_|refine br (fun _=> ?_) (fun _=> ?_)|refine⟨rfl,?_⟩)|(refine oz ?_))
 refine iP (σ:={i:Nat // i<=l.length/\ ∀j,j<i->iW (l.getD j l9)=true}) (fun y=>[(0,Cp l),(2,SV.str []),(3,SV.ref 0 0 0 0),(4,SV.sl 1 0 1 0 l.length (some l.length)),(10,Cp l),(11,SV.int IntKind.i64 l.length),(12,SV.int IntKind.i64 y.1)])
  (fun y=>⟨2,[(1,.vec 0 1 (lA l y.1) ⟨false,some 9⟩),(0,.vec 0 2 [l7 0 0] ⟨false,some 33⟩)]⟩) (fun y=>l.length-y.1) ?_ ⟨0,by omega,fun j hj=>by omega⟩
 rintro⟨i,hi,hf⟩;dsimp only;have e7:IntKind.i64.wrap ((i:Int)+1)=((i+1:Nat):Int):=bL (by omega);have et:=Int.toNat_natCast i;by_cases hil:i<l.length
 ·have hd:decide ((i:Int)<(l.length:Int))=true:=decide_eq_true (by omega)
  have hb:(decide (0<=(i:Int))&&decide ((i:Int)<(l.length:Int)))=true:=by simp only[Bool.and_eq_true,decide_eq_true_eq];omega
  have hm:l.getD i l9∈l:=by
   rw[show l.getD i l9=l[i] by simp[List.getD,hil]];exact List.getElem_mem _
  obtain⟨hn,ht⟩:=hin _ hm;have cf:=HK hn ht;rw[<- et]at cf;cases Jr:iW (l.getD i l9)with
  |false=>
   rw[<- et]at Jr;rw[Jr]at cf;rw[et]at Jr;have kY:=Ei l 0 i hil hf Jr;rw[Nat.zero_add]at kY;iterate 40 all_goals ((try conv=>whnf);try first|(with_reducible first|refine zY ?_|refine zN ?_|refine zT ?_|refine br (fun _=> ?_) (fun _=> ?_)|refine⟨rfl,?_⟩|refine au.call (cf) ?_)|(refine oz ?_))
   exact leaf (by unfold uO;rw[kY]) (wU l)
  |true=>
   obtain⟨Yb,Yc,Wf⟩:=uP (AH Jr);have cs:=AF (x:=l.getD i l9) (fun h=>Nat.le_trans (Wf h) (by decide)) hn;rw[<- et]at cs;rw[<- et]at Jr;rw[Jr]at cf;rw[et]at Jr;iterate 60 all_goals ((try conv=>whnf);try first|(with_reducible first|refine zY ?_|refine zN ?_|refine zT ?_|refine br (fun _=> ?_) (fun _=> ?_)|refine⟨rfl,?_⟩|refine au.call (cf) ?_|refine au.call (cs) ?_)|(refine Co (elems:=lA l i) (w:=SV.str []) rfl (by rw[et];exact Fy hil) (by intro cs h;cases h) rfl ?_)|(refine oz ?_)|(refine bh (by rw[et,wV hil];exact QD) ?_)|(refine bh (gR rfl) ?_))
   refine⟨⟨i+1,hil,fun j hj=> ?_⟩,by dsimp only;omega,by rw[e7],?_⟩
   ·rcases(by omega:j<i\/j=i)with h|rfl
    ·exact hf j h
    ·exact Jr
   ·dsimp only
    rw[<- wV hil];rfl
 ·have hd:decide ((i:Int)<(l.length:Int))=false:=decide_eq_false (by omega)
  obtain rfl:i=l.length:=by omega
  have hnone:=uN l 0 hf;have hall:=wT hnone;have ej:(l.map fun x=>cu x.1)=(l.map (·.1)).map cu:=by rw[List.map_map];rfl
  have hjl:=wE (k:=65536) (l:=l.map (·.1)) fun x hx=>by
   obtain⟨y,hy,rfl⟩:=List.mem_map.1 hx;exact(uP (AH (hall y hy))).1
  rw[List.length_map]at hjl
  have cj:=HG (l:=l.map fun x=>cu x.1) (sep:=[32]) (by rw[List.length_map];omega) (by
   rw[ej,pV];have:l.length*(65536+1)<=5000*(65536+1):=Nat.mul_le_mul_right _ hl;omega)
  have ew:lA l l.length=(l.map fun x=>cu x.1).map SV.str:=by
   unfold lA;rw[List.take_length,Nat.sub_self,List.map_map];simp
  rw[ew];iterate 40 all_goals ((try conv=>whnf);try first|(with_reducible first|refine zY ?_|refine zN ?_|refine zT ?_|refine br (fun _=> ?_) (fun _=> ?_)|refine⟨rfl,?_⟩)|(refine au.L9 cj (fun j=>Nat.beq j 1) (.cons (oB rfl (by rw[List.length_map])) (.cons (.lit (.str _)) .nil)) (.str _) ?_)|(refine oz ?_))
  exact leaf (by unfold uO;rw[hnone,ej,pV]) (wU l)
end
end Go.Proofs.YtbjifmbemdhndaaGreatDoor
namespace Go.Proofs.YtbjifmbemdhndaaGreatDoor
open Ab Go.RowKit
set_option maxRecDepth 100000
set_option maxHeartbeats 8000000
def cN:List (List UInt8):=[[97,110,100],[97,115],[97,115,99],[98,101,103,105,110],[98,111,111,108],[98,121],[99,111,109,109,105,116],[99,111,117,110,116],[99,114,101,97,116,101],[100,101,108,101,116,101],[100,101,115,99],[102,97,108,115,101],[102,114,111,109],[103,114,111,117,112],[105,110,100,101,120],[105,110,115,101,114,116],[105,110,116],[105,110,116,111],[105,115],[106,111,105,110],[107,101,121],[108,105,109,105,116],[109,97,120],[109,105,110],[110,111,116],[110,117,108,108],[111,110],[111,114],[111,114,100,101,114],[112,114,105,109,97,114,121],[114,111,108,108,98,97,99,107],[115,97,118,101,112,111,105,110,116],[115,101,108,101,99,116],[115,101,116],[115,117,109],[116,97,98,108,101],[116,101,120,116],[116,111],[116,114,117,101],[117,110,105,113,117,101],[117,112,100,97,116,101],[118,97,108,117,101,115],[119,104,101,114,101]]
def HM:List (Nat×bR):=[(179,t179),(129,t129)]
theorem Js:fm Tryz.prog HM:= .cons Hp (.cons Ce (.nil))
def QE:Nat:=400
def KX:List SV:=cN.map SV.str
def Ng:bV->Heap->Prop:=fun r h'=> ∃v',r= .ret v'/\cA h' v' (nj cN)
theorem Nh:(lvl Tryz.prog HM QE).1.call 179 [] ⟨0,[]⟩ Ng=Ng (.ret (.sl 0 0 1 0 43 (some 43))) ⟨1,[(0,.vec 0 1 KX ⟨false,some 9⟩)]⟩:=by kernel_rfl
theorem Jt{n:Nat}{f:FuncId}{R:bV->Heap->Prop}(hp:(lvl Tryz.prog HM n).1.call f [] ⟨0,[]⟩ R):aP Tryz.prog f [] ⟨0,[]⟩ R:=(rO mixed Js n).1.call _ _ _ _ hp
theorem Ni:Ng (.ret (.sl 0 0 1 0 43 (some 43))) ⟨1,[(0,.vec 0 1 KX ⟨false,some 9⟩)]⟩:=⟨_,rfl,oB (s:=cN) (g:=0) (sk:=⟨false,some 9⟩) rfl rfl⟩
theorem yp:au Tryz.prog 179 [] (nj cN):=bu (fun _ h=>by simp at h) (Jt (Nh.symm▸Ni))
def Cq:List (List UInt8)->List UInt8->Nat->Int
 | [],_,_=> -1
 |x::r,w,k=>if w==x then k else Cq r w (k+1)
def sM(l:List (List UInt8))(w:List UInt8):Bool:=l.any fun x=>w==x
theorem HN: ∀(l:List (List UInt8)) (w:List UInt8) (k:Nat),decide (0<=Cq l w k)=sM l w
 | [],_,_=>rfl
 |x::r,w,k=>by
  have ih:=HN r w (k+1);unfold sM at ih ⊢;rw[Cq,List.any_cons];cases h:(w==x)with
  |true=>rw[if_pos rfl,Bool.true_or];exact decide_eq_true (by omega)
  |false=>rw[if_neg (by decide),Bool.false_or];exact ih
theorem Cr{l:List (List UInt8)}{i:Nat}(h:i<l.length):l.drop i=l.getD i []::l.drop (i+1):=by
 rw[List.drop_eq_getElem_cons h];simp[List.getD,h]
theorem Cs{l:List (List UInt8)}{w:List UInt8}(hl:l.length<=100000):au Tryz.prog 218 [nj l,.str w] (.int .i64 (Cq l w 0)):=by
 refine bu (kJ (.eR _ _ _) (.str _)) (Hq.call mixed rfl ?_);iterate 6 all_goals ((try conv=>whnf);try first|(with_reducible first|refine zY ?_|refine zN ?_|refine zT ?_|refine br (fun _=> ?_) (fun _=> ?_)|refine⟨rfl,?_⟩))
 refine iP (σ:={i:Nat // i<=l.length/\Cq l w 0=Cq (l.drop i) w i}) (fun y=>[(0,nj l),(1,SV.str w),(4,SV.int IntKind.i64 0),(7,SV.int IntKind.i64 l.length),(8,SV.int IntKind.i64 y.1)])
  (fun _=>⟨0,[]⟩) (fun y=>l.length-y.1) ?_ ⟨0,by omega,rfl⟩
 rintro⟨i,hi,he⟩;dsimp only;have e7:IntKind.i64.wrap ((i:Int)+1)=((i+1:Nat):Int):=bL (by omega);have et:=Int.toNat_natCast i;by_cases hil:i<l.length
 ·have hd:decide ((i:Int)<(l.length:Int))=true:=decide_eq_true (by omega)
  have hb:(decide (0<=(i:Int))&&decide ((i:Int)<(l.length:Int)))=true:=by simp only[Bool.and_eq_true,decide_eq_true_eq];omega
  rw[Cr hil,Cq,<-et]at he;cases hq:(w==l.getD (i:Int).toNat [])with
  |true=>
   rw[hq,if_pos rfl]at he;iterate 24 all_goals ((try conv=>whnf);try first|(with_reducible first|refine zY ?_|refine zN ?_|refine zT ?_|refine br (fun _=> ?_) (fun _=> ?_)|refine⟨rfl,?_⟩))
   exact leaf (by rw[he,et]) (.int _ _)
  |false=>
   rw[hq,if_neg (by decide),et]at he;iterate 24 all_goals ((try conv=>whnf);try first|(with_reducible first|refine zY ?_|refine zN ?_|refine zT ?_|refine br (fun _=> ?_) (fun _=> ?_)|refine⟨rfl,?_⟩))
   exact⟨⟨i+1,hil,he⟩,by dsimp only;omega,by rw[e7],rfl⟩
 ·have hd:decide ((i:Int)<(l.length:Int))=false:=decide_eq_false (by omega)
  iterate 12 all_goals ((try conv=>whnf);try first|(with_reducible first|refine zY ?_|refine zN ?_|refine zT ?_|refine br (fun _=> ?_) (fun _=> ?_)|refine⟨rfl,?_⟩))
  exact leaf (by rw[he,List.drop_of_length_le (by omega)];rfl) (.int _ _)
theorem vG(w:List UInt8):au Tryz.prog 144 [.str w] (.bool (sM cN w)):=by
 have hi:=Cs (l:=cN) (w:=w) (by decide)
 have hc:au Tryz.prog 178 [nj cN,.str w] (.bool (sM cN w)):=by
  refine bu (kJ (.eR _ _ _) (.str _)) (Ho.call mixed rfl ?_);iterate 8 all_goals ((try conv=>whnf);try first|(with_reducible first|refine zY ?_|refine zN ?_|refine zT ?_|refine br (fun _=> ?_) (fun _=> ?_)|refine⟨rfl,?_⟩|refine au.call (hi) ?_))
  exact leaf (by rw[HN]) (.bool _)
 refine bu (bK (.str _)) (Hl.call mixed rfl ?_);iterate 8 all_goals ((try conv=>whnf);try first|(with_reducible first|refine zY ?_|refine zN ?_|refine zT ?_|refine br (fun _=> ?_) (fun _=> ?_)|refine⟨rfl,?_⟩|refine au.call (yp) ?_|refine au.call (hc) ?_))
 exact leaf rfl (.bool _)
end Go.Proofs.YtbjifmbemdhndaaGreatDoor
namespace Go.Proofs.YtbjifmbemdhndaaGreatDoor
open Ab Go.RowKit
set_option maxRecDepth 100000
set_option maxHeartbeats 4000000
attribute [local irreducible] aO bx
section
variable {l:List TP} {m e:Nat}
theorem gv{s:List UInt8}{i:Nat}(h:fM (aX l) s i=true):i<l.length:=by
 refine Classical.byContradiction fun hn=> ?_
 unfold fM aX at h;rw[yj hn]at h;simp[aH]at h
theorem Ek(hl:l.length<=65536)(s:List UInt8)(i:Nat):dj Tryz.prog 30 [.str s] (gQ l i m e) (.ret (.bool (fM (aX l) s i))) (gQ l (if fM (aX l) s i then i+1 else i) m e):=by
 refine⟨bK (.str _),ai ..,ai ..,.bool _,KC.call mixed rfl ?_⟩;have c:=yl (l:=l) (m:=m) (e:=e) s i;cases hb:fM (aX l) s i
 ·rw[hb]at c
  iterate 12 all_goals ((try conv=>whnf);try first|(with_reducible first|refine zY ?_|refine zN ?_|refine zT ?_|refine br (fun _=> ?_) (fun _=> ?_)|refine⟨rfl,?_⟩)|(refine c.call rfl ?_))
  exact cO (.lit (.bool _)) rfl
 ·have hi:=gv hb
  have e7:IntKind.i64.wrap ((i:Int)+1)=((i+1:Nat):Int):=bL (by omega);rw[hb]at c;iterate 12 all_goals ((try conv=>whnf);try first|(with_reducible first|refine zY ?_|refine zN ?_|refine zT ?_|refine br (fun _=> ?_) (fun _=> ?_)|refine⟨rfl,?_⟩)|(refine c.call rfl ?_))
  exact cO (.lit (.bool _)) (by rw[e7];rfl)
theorem qO(hl:l.length<=65536){s:List UInt8}{i:Nat}(h:fM (aX l) s i=true):dj Tryz.prog 30 [.str s] (gQ l i m e) (.ret (.bool true)) (gQ l (i+1) m e):=by
 have:=Ek (m:=m) (e:=e) hl s i;rw[h]at this;exact this
theorem uQ(hl:l.length<=65536){s:List UInt8}{i:Nat}(h:fM (aX l) s i=false):dj Tryz.prog 30 [.str s] (gQ l i m e) (.ret (.bool false)) (gQ l i m e):=by
 have:=Ek (m:=m) (e:=e) hl s i;rw[h]at this;exact this
@[reducible] def Ct (l:List TP) (m:Nat) (r:cH Ex):bV:=match r with
  | .ok x _=> .ret (kq x)
  | .bad er j=> .cZ (rR er (eN l m j))
def KY{α:Type}(r:cH α):Nat:=match r with
 | .ok _ j=>j
 | .bad _ j=>j
theorem wW(hl:l.length<=65536)(s:List UInt8)(i:Nat):dj Tryz.prog 131 [nj [s]] (gQ l i m e)
  (match dX (aX l) s i with| .ok _ _=> .ret (.aN [])| .bad er j=> .cZ (rR er (eN l m j))) (gQ l (KY (dX (aX l) s i)) m e):=by
 unfold dX;cases hb:fM (aX l) s i
 ·have cg:=uQ (m:=m) (e:=e) hl hb
  have cw:=ij (l:=l) (m:=m) (e:=e) 240 i;refine⟨bK (.eR ..),ai ..,ai ..,av ..,Cf.call mixed rfl ?_⟩;iterate 30 all_goals ((try conv=>whnf);try first|(with_reducible first|refine zY ?_|refine zN ?_|refine zT ?_|refine br (fun _=> ?_) (fun _=> ?_)|refine⟨rfl,?_⟩|refine dI.succ ?_)|(refine cg.call rfl ?_)|(refine cw.cZ rfl fun h=> ?_)|with_reducible refine cW 3 ?_)
  exact cI (av _ _)
 ·have cg:=qO (m:=m) (e:=e) hl hb
  refine⟨bK (.eR ..),ai ..,ai ..,.aN (by simp),Cf.call mixed rfl ?_⟩;iterate 30 all_goals ((try conv=>whnf);try first|(with_reducible first|refine zY ?_|refine zN ?_|refine zT ?_|refine br (fun _=> ?_) (fun _=> ?_)|refine⟨rfl,?_⟩|refine dI.succ ?_)|(refine cg.call rfl ?_)|with_reducible refine cW 3 ?_)
  exact cO (.lit (.aN (by simp))) rfl
theorem cD{i:Nat}{k:Int}(h:((l.getD i aH).1.k==k)=true)(hk:k≠0):i<l.length:=by
 refine Classical.byContradiction fun hn=> ?_
 rw[yj hn]at h;simp[aH]at h;omega
theorem AI(hl:l.length<=65536)(i:Nat):dj Tryz.prog 88 [] (gQ l i m e)
  (match kM (aX l) (sM cN) i with| .ok s _=> .ret (.str s)| .bad er j=> .cZ (rR er (eN l m j))) (gQ l (KY (kM (aX l) (sM cN) i)) m e):=by
 have c:=iV (l:=l) (m:=m) (e:=e) i;have cw:=ij (l:=l) (m:=m) (e:=e) 240 i;have cr:=vG (l.getD i aH).1.t;unfold kM;cases hk:((l.getD i aH).1.k==1)with
 |false=>
  have hn:((l.getD i aH).1.k !=1)=true:=by unfold bne;rw[hk];rfl
  rw[Bool.false_and,if_neg (by decide)];refine⟨aV,ai ..,ai ..,av ..,Ed.call mixed rfl ?_⟩;iterate 20 all_goals ((try conv=>whnf);try first|(with_reducible first|refine zY ?_|refine zN ?_|refine zT ?_|refine br (fun _=> ?_) (fun _=> ?_)|refine⟨rfl,?_⟩|refine au.call (cr) ?_)|(refine c.call rfl ?_)|(refine cw.cZ rfl fun h=> ?_))
  exact cI (av _ _)
 |true=>
  have hn:((l.getD i aH).1.k !=1)=false:=by unfold bne;rw[hk];rfl
  have hi:=cD hk (by decide);have e7:IntKind.i64.wrap ((i:Int)+1)=((i+1:Nat):Int):=bL (by omega);rw[Bool.true_and];cases hr:sM cN (l.getD i aH).1.t with
  |true=>
   rw[hr]at cr;rw[Bool.not_true,if_neg (by decide)];refine⟨aV,ai ..,ai ..,av ..,Ed.call mixed rfl ?_⟩;iterate 20 all_goals ((try conv=>whnf);try first|(with_reducible first|refine zY ?_|refine zN ?_|refine zT ?_|refine br (fun _=> ?_) (fun _=> ?_)|refine⟨rfl,?_⟩|refine au.call (cr) ?_)|(refine c.call rfl ?_)|(refine cw.cZ rfl fun h=> ?_))
   exact cI (av _ _)
  |false=>
   rw[hr]at cr;rw[Bool.not_false,if_pos rfl];refine⟨aV,ai ..,ai ..,.str _,Ed.call mixed rfl ?_⟩;iterate 20 all_goals ((try conv=>whnf);try first|(with_reducible first|refine zY ?_|refine zN ?_|refine zT ?_|refine br (fun _=> ?_) (fun _=> ?_)|refine⟨rfl,?_⟩|refine au.call (cr) ?_)|(refine c.call rfl ?_)|(refine cw.cZ rfl fun h=> ?_))
   exact cO (.lit (.str _)) (by rw[e7];rfl)
end
section
theorem gp{P:Program}{f:FuncId}{s:List UInt8}{o o':aA}{v:SV}(hp:dj P f [nj [s]] o (.ret v) o'){i k n:Nat}{l:List (Nat×aA)}{sk:Sk}{R:bV->Heap->Prop}(ho:aG l i=some o)(hk:aG l k=some (.vec 0 1 [.str s] sk))(hik:Nat.beq i k=false)
  (hR:R (.ret v) ⟨n,bC (iQ (fun j=>Nat.beq j k) l) i o'⟩):aP P f [.ref i 0 0 0,.sl k 0 1 0 1 (some 1)] ⟨n,l⟩ R:=by
 refine aP.Hu (fun j=>Nat.beq j k) (.same (.yg (oB (s:=[s]) (g:=0) (sk:=sk) ?_ rfl) .nil)) (hp.call ?_ hR)
 ·show aG (qX _ l) k=_
  rw[mF,if_pos (Nat.beq_refl k)];exact hk
 ·rw[gj,if_neg (by rw[hik];decide)]
  exact ho
theorem AJ{P:Program}{f:FuncId}{s:List UInt8}{o o':aA}{v:SV}(hp:dj P f [nj [s]] o (.cZ v) o'){i k n:Nat}{l:List (Nat×aA)}{sk:Sk}{R:bV->Heap->Prop}(ho:aG l i=some o)(hk:aG l k=some (.vec 0 1 [.str s] sk))(hik:Nat.beq i k=false)
  (hR: ∀h',R (.cZ v) h'):aP P f [.ref i 0 0 0,.sl k 0 1 0 1 (some 1)] ⟨n,l⟩ R:=by
 refine aP.Hu (fun j=>Nat.beq j k) (.same (.yg (oB (s:=[s]) (g:=0) (sk:=sk) ?_ rfl) .nil)) (hp.cZ ?_ hR)
 ·show aG (qX _ l) k=_
  rw[mF,if_pos (Nat.beq_refl k)];exact hk
 ·rw[gj,if_neg (by rw[hik];decide)]
  exact ho
variable {l:List TP} {m e:Nat}
theorem gq(hl:l.length<=65536){s:List UInt8}{i:Nat}(h:fM (aX l) s i=true):dj Tryz.prog 131 [nj [s]] (gQ l i m e) (.ret (.aN [])) (gQ l (i+1) m e):=by
 have:=wW (m:=m) (e:=e) hl s i;unfold dX at this;rw[h,if_pos rfl]at this;exact this
theorem kQ(hl:l.length<=65536){s:List UInt8}{i:Nat}(h:fM (aX l) s i=false):dj Tryz.prog 131 [nj [s]] (gQ l i m e) (.cZ (rR 240 (eN l m i))) (gQ l i m e):=by
 have:=wW (m:=m) (e:=e) hl s i;unfold dX at this;rw[h,if_neg (by decide)]at this;exact this
def rU(l:List TP)(m e:Nat)(fn:FuncId)(f:Nat->cH Ex):Prop:= ∀i,i<=l.length->dj Tryz.prog fn [] (gQ l i m e) (Ct l m (f i)) (gQ l (KY (f i)) m e)
theorem oC(v:Va):au Tryz.prog 249 [.agg [.int .u8 v.k,.int .i64 v.i,.str v.s]] (kq (lp v)):=by
 refine bu (bK (.agg (by simp only[List.mem_cons,List.not_mem_nil,or_false];rintro _ (rfl|rfl|rfl)<;>constructor))) (Hr.call mixed rfl ?_);iterate 6 all_goals ((try conv=>whnf);try first|(with_reducible first|refine zY ?_|refine zN ?_|refine zT ?_|refine br (fun _=> ?_) (fun _=> ?_)|refine⟨rfl,?_⟩))
 exact⟨_,rfl,mO ki⟩
theorem El(hl:l.length<=65536){s:List UInt8}{i j:Nat}(h:kM (aX l) (sM cN) i= .ok s j):dj Tryz.prog 88 [] (gQ l i m e) (.ret (.str s)) (gQ l j m e):=by
 have:=AI (m:=m) (e:=e) hl i;rw[h]at this;exact this
theorem AK(hl:l.length<=65536){er:Int}{i j:Nat}(h:kM (aX l) (sM cN) i= .bad er j):dj Tryz.prog 88 [] (gQ l i m e) (.cZ (rR er (eN l m j))) (gQ l j m e):=by
 have:=AI (m:=m) (e:=e) hl i;rw[h]at this;exact this
theorem Cu(hl:l.length<=65536):rU l m e 138 (BZ (aX l) (sM cN)):=by
 intro i hi;unfold BZ;cases hn:kM (aX l) (sM cN) i with
 |bad er j=>
  have c:=AK (m:=m) (e:=e) hl hn;refine⟨aV,ai ..,ai ..,av ..,uE.call mixed rfl ?_⟩;iterate 20 all_goals ((try conv=>whnf);try first|(with_reducible first|refine zY ?_|refine zN ?_|refine zT ?_|refine br (fun _=> ?_) (fun _=> ?_)|refine⟨rfl,?_⟩)|(refine c.cZ rfl fun h=> ?_))
  exact cI (av _ _)
 |ok s j=>
  have c:=El (m:=m) (e:=e) hl hn;dsimp only[cH.then];cases hd:fM (aX l) [46] j with
  |false=>
   have cg:=uQ (m:=m) (e:=e) hl hd;refine⟨aV,ai ..,ai ..,aq _,uE.call mixed rfl ?_⟩;iterate 20 all_goals ((try conv=>whnf);try first|(with_reducible first|refine zY ?_|refine zN ?_|refine zT ?_|refine br (fun _=> ?_) (fun _=> ?_)|refine⟨rfl,?_⟩)|(refine c.call rfl ?_)|(refine cg.call rfl ?_))
   exact cO (mO ki:cA _ _ (kq (IZ [] s))) rfl
  |true=>
   have cg:=qO (m:=m) (e:=e) hl hd;cases hn2:kM (aX l) (sM cN) (j+1)with
   |bad er k=>
    have c2:=AK (m:=m) (e:=e) hl hn2;refine⟨aV,ai ..,ai ..,av ..,uE.call mixed rfl ?_⟩;iterate 20 all_goals ((try conv=>whnf);try first|(with_reducible first|refine zY ?_|refine zN ?_|refine zT ?_|refine br (fun _=> ?_) (fun _=> ?_)|refine⟨rfl,?_⟩)|(refine c.call rfl ?_)|(refine cg.call rfl ?_)|(refine c2.cZ rfl fun h=> ?_))
    exact cI (av _ _)
   |ok t k=>
    have c2:=El (m:=m) (e:=e) hl hn2;refine⟨aV,ai ..,ai ..,aq _,uE.call mixed rfl ?_⟩;iterate 20 all_goals ((try conv=>whnf);try first|(with_reducible first|refine zY ?_|refine zN ?_|refine zT ?_|refine br (fun _=> ?_) (fun _=> ?_)|refine⟨rfl,?_⟩)|(refine c.call rfl ?_)|(refine cg.call rfl ?_)|(refine c2.call rfl ?_))
    exact cO (mO ki:cA _ _ (kq (IZ s t))) rfl
end
end Go.Proofs.YtbjifmbemdhndaaGreatDoor
namespace Ab
open Go
section
structure wX(tgt:SV->aA):Prop where
 Ck: ∀ {N:Nat->Nat->Prop} {v v':SV},gP N v v'->mN N (tgt v) (tgt v')
 yg: ∀ {A:Heap} {v v':SV},cA A v v'->yh A (tgt v) (tgt v')
@[reducible] def tE (ty:TypeId):aA:= .vec 0 1 [.ref 0 0 0 0] ⟨false,some ty⟩
theorem yq{N:Nat->Nat->Prop}{g sz:Nat}{es:List SV}{sk:Sk}(h: ∀v∈es,bA v):mN N (.vec g sz es sk) (.vec g sz es sk):=
 .vec rfl fun i v v' a b=>by rw[a]at b;cases b;exact .lit (h v (List.mem_of_getElem? a))
section
variable {P:Program} {f:FuncId} {tgt:SV->aA} {ty tr:TypeId} {sz:Nat} {o0 S0:aA}
@[reducible] def aT (fl:Bool):List SV:=match fl with
  |false=>[.ref 2 0 0 0,.ref 1 0 0 0]
  |true=>[.ref 1 0 0 0,.ref 2 0 0 0]
variable {fl:Bool}
end
end
end Ab
