/- Parts of the proof of PParserDepth, one behind the other, with short names. -/
import Derived.Test.YtbjifmbemdhndaaGreatDoorY30
import Derived.KernelRfl
import Derived.Test.YtbjifmbemdhndaaGreatDoorY21
import Derived.Test.YtbjifmbemdhndaaGreatDoorY26
import Derived.Shelf.Strconv.Itoa1
import Derived.Shelf.Strconv.Itoa2
import Derived.Lib.Walk
import Derived.Lib.ItoaMem
import Derived.WalkKit
import Derived.BigCall
import Derived.BigGuard
import Derived.Test.YtbjifmbemdhndaaGreatDoorY23
import Derived.Lib.Bytealg
set_option linter.unusedVariables false
set_option linter.unusedSimpArgs false
namespace Go.Proofs.YtbjifmbemdhndaaGreatDoor
open Ab Go.RowKit
set_option maxRecDepth 1000000
set_option maxHeartbeats 8000000
def KT:List (Nat×bR):=[(79,t79),(129,t129)]
theorem Jl:fm Tryz.prog KT:= .cons KO (.cons Ce (.nil))
def KU:List SV:=[.str [60,62],.str [60,61],.str [62,61],.str [124,124],.str [40],.str [41],.str [44],.str [59],.str [46],.str [42],.str [43],.str [45],.str [47],.str [37],.str [61],.str [60],.str [62]]
def KV:bV->Heap->Prop:=fun r h'=> ∃v',r= .ret v'/\cA h' v' (.eR 1 17 fun i=> .str (eg.getD i []))
theorem Fv:au Tryz.prog 79 [] (.eR 1 17 fun i=> .str (eg.getD i [])):=by
 refine bu (fun _ h=>by simp at h) ((rO mixed Jl 60).1.call _ _ _ _ (Eq.mpr (show(lvl Tryz.prog KT 60).1.call 79 [] ⟨0,[]⟩ KV=KV (.ret (.sl 0 0 1 0 17 (some 17))) ⟨1,[(0,.vec 0 1 KU ⟨false,some 9⟩)]⟩ by kernel_rfl) ?_));refine⟨_,rfl,?_⟩;exact uk (elems:=KU) (get:=fun i=> .str (eg.getD i [])) rfl ⟨rfl,.str _,rfl,.str _,rfl,.str _,rfl,.str _,rfl,.str _,rfl,.str _,rfl,.str _,rfl,.str _,rfl,.str _,rfl,.str _,rfl,.str _,rfl,.str _,rfl,.str _,rfl,.str _,rfl,.str _,rfl,.str _,rfl,.str _,trivial⟩
theorem Jm{s:List UInt8}(hs:s.length<=100000)(hne:s≠[]):au Tryz.prog 27 [.str s] (vB (fH s)):=by
 refine bu (bK (.str _)) (KB.call mixed rfl ?_);have hpos:0<s.length:=by cases s with|nil=>exact absurd rfl hne|cons c r=>simp
 have hl:=uF (s.getD (Int.toNat 0) 0);have hg:=rS (s.getD (Int.toNat 0) 0)
 have eo:fH s=if bG (s.getD 0 0)then mV s else if isDigit (s.getD 0 0)then iy s else if s.getD 0 0==39 then lV s else fZ s eg:=by
  cases s with
  |nil=>exact absurd rfl hne
  |cons c r=>rfl
 have e0:Int.toNat 0=0:=rfl;cases h1:bG (s.getD (Int.toNat 0) 0)
 ·have L2:=h1
  rw[e0]at h1;rw[h1,if_neg (by decide)]at eo;cases h2:isDigit (s.getD (Int.toNat 0) 0)
  ·have nk:=h2
   rw[e0]at h2;rw[h2,if_neg (by decide)]at eo;by_cases h3:s.getD 0 0=39
   ·have h4:(((s.getD (Int.toNat 0) 0).toNat:Int)==39)=true:=by rw[e0,h3];rfl
    rw[h3,if_pos (by decide)]at eo;have ht:=HD hs h3 hne;cases hT:lV s
    all_goals rw[hT]at ht
    all_goals iterate 20 all_goals ((try conv=>whnf);try first|(with_reducible first|refine zY ?_|refine zN ?_|refine zT ?_|refine br (fun _=> ?_) (fun _=> ?_)|refine⟨rfl,?_⟩|refine au.call (hl) ?_|refine au.call (hg) ?_|refine au.call (ht) ?_))
    all_goals exact leaf (by rw[eo,hT];rfl) (cE _)
   ·have h4:(((s.getD (Int.toNat 0) 0).toNat:Int)==39)=false:=by
     rw[e0,beq_eq_false_iff_ne];intro e;exact h3 (UInt8.toNat_inj.1 (by have:(39:UInt8).toNat=39:=rfl;omega))
    rw[if_neg (by simpa using h3)]at eo;have hp: ∀p:List UInt8,p.length<=1000000->au Tryz.prog 80 [.str s,.str p] (.bool (p.isPrefixOf s)):=fun p h=>oT h
    iterate 14 all_goals ((try conv=>whnf);try first|(with_reducible first|refine zY ?_|refine zN ?_|refine zT ?_|refine br (fun _=> ?_) (fun _=> ?_)|refine⟨rfl,?_⟩|refine au.call (hl) ?_|refine au.call (hg) ?_|refine au.call (Fv) ?_))
    refine iP (σ:={i:Nat // i<=17/\fZ s eg=fZ s (eg.drop i)}) (fun x=>[(0,SV.str s),(2,SV.ref 0 0 0 0),(3,SV.int IntKind.i64 0),(4,SV.int IntKind.i64 0),(5,SV.int IntKind.u8 ((s.getD (Int.toNat 0) 0).toNat:Int)),(10,SV.bool false),(18,SV.bool false),(26,SV.bool false),(34,SV.eR 1 17 fun i=>SV.str (eg.getD i [])),(35,SV.int IntKind.i64 ((17:Nat):Int)),(36,SV.int IntKind.i64 x.1)])
     (fun _=>⟨1,[(0,ym)]⟩) (fun x=>17-x.1) ?_ ⟨0,by omega,rfl⟩
    rintro⟨i,hi,he⟩;dsimp only;by_cases hil:i<17
    ·have hd:decide ((i:Int)<((17:Nat):Int))=true:=decide_eq_true (by omega)
     have e7:IntKind.i64.wrap ((i:Int)+1)=((i+1:Nat):Int):=bL (by omega);have et:=Int.toNat_natCast i
     have hlen:(eg.getD (i:Int).toNat []).length<=1000000:=by
      rw[et];have: ∀j:Fin 17,(eg.getD j.val []).length<=1000000:=by decide
      exact this ⟨i,hil⟩
     have Kk:=hp _ hlen
     have hdc:eg.drop i=eg.getD (i:Int).toNat []::eg.drop (i+1):=by
      rw[et];have: ∀j:Fin 17,eg.drop j.val=eg.getD j.val []::eg.drop (j.val+1):=by decide
      exact this ⟨i,hil⟩
     rw[hdc,fZ]at he;cases hx:(eg.getD (i:Int).toNat []).isPrefixOf s
     ·rw[hx,if_neg (by decide)]at he
      iterate 16 all_goals ((try conv=>whnf);try first|(with_reducible first|refine zY ?_|refine zN ?_|refine zT ?_|refine br (fun _=> ?_) (fun _=> ?_)|refine⟨rfl,?_⟩|refine au.call (Kk) ?_))
      exact⟨⟨i+1,hil,he⟩,by dsimp only;omega,by rw[e7],rfl⟩
     ·rw[hx,if_pos rfl]at he
      iterate 16 all_goals ((try conv=>whnf);try first|(with_reducible first|refine zY ?_|refine zN ?_|refine zT ?_|refine br (fun _=> ?_) (fun _=> ?_)|refine⟨rfl,?_⟩|refine au.call (Kk) ?_))
      exact leaf (by rw[eo,he];rfl) (cE _)
    ·have hd:decide ((i:Int)<((17:Nat):Int))=false:=decide_eq_false (by omega)
     iterate 16 all_goals ((try conv=>whnf);try first|(with_reducible first|refine zY ?_|refine zN ?_|refine zT ?_|refine br (fun _=> ?_) (fun _=> ?_)|refine⟨rfl,?_⟩))
     obtain rfl:i=17:=by omega
     exact leaf (by rw[eo,he];rfl) (cE _)
  ·have nk:=h2
   rw[e0]at h2;have hn:=Cn hs h2 hne;rw[h2,if_pos rfl]at eo;cases hT:iy s
   all_goals rw[hT]at hn
   all_goals iterate 20 all_goals ((try conv=>whnf);try first|(with_reducible first|refine zY ?_|refine zN ?_|refine zT ?_|refine br (fun _=> ?_) (fun _=> ?_)|refine⟨rfl,?_⟩|refine au.call (hl) ?_|refine au.call (hg) ?_|refine au.call (hn) ?_))
   all_goals exact leaf (by rw[eo,hT];rfl) (cE _)
 ·have L2:=h1
  rw[e0]at h1;have hw:=Hy hs;rw[h1,if_pos rfl]at eo;cases hT:mV s
  all_goals rw[hT]at hw
  all_goals iterate 20 all_goals ((try conv=>whnf);try first|(with_reducible first|refine zY ?_|refine zN ?_|refine zT ?_|refine br (fun _=> ?_) (fun _=> ?_)|refine⟨rfl,?_⟩|refine au.call (hl) ?_|refine au.call (hg) ?_|refine au.call (hw) ?_))
  all_goals exact leaf (by rw[eo,hT];rfl) (cE _)
end Go.Proofs.YtbjifmbemdhndaaGreatDoor
namespace Go.Proofs.YtbjifmbemdhndaaGreatDoor
open Ab Go.RowKit
set_option maxRecDepth 100000
set_option maxHeartbeats 4000000
attribute [local irreducible] aO bx
theorem sK(c:UInt8):au Tryz.prog 26 [.str [9,10,13,32],.int .u8 (c.toNat:Int)] (.int .i64 (Go.Lib.indexByte [9,10,13,32] c)):=by
 refine bu (kJ (.str _) (.int _ _)) (KA.call mixed rfl ?_);iterate 6 all_goals ((try conv=>whnf);try first|(with_reducible first|refine zY ?_|refine zN ?_|refine zT ?_|refine br (fun _=> ?_) (fun _=> ?_)|refine⟨rfl,?_⟩)|(refine Hg.call mixed rfl ?_))
 refine leaf ?_ (.int _ _);have e:(Int.toNat (c.toNat:Int)).toUInt8=c:=by rw[Int.toNat_natCast];simp
 show SV.int .i64 (Lib.indexByte [9,10,13,32] (Int.toNat (c.toNat:Int)).toUInt8)=_;rw[e]
theorem sL(c:UInt8):decide (0<=Go.Lib.indexByte [9,10,13,32] c)=bT c:=by
 have: ∀n:Fin 256,decide (0<=Go.Lib.indexByte [9,10,13,32] (UInt8.ofNat n.val))=bT (UInt8.ofNat n.val):=by decide +kernel
 have h:=this ⟨c.toNat,UInt8.toNat_lt c⟩;simp only[UInt8.ofNat_toNat]at h;exact h
theorem pU: ∀(f:Nat) (u:List UInt8) (i:Nat) (bad:Bool) (buf:List UInt8) (e:Int),bN f u i bad buf= .err e->e≠0
 |0,_,_,_,_,e,h=>by simp[bN]at h;omega
 |f+1,[],_,_,_,e,h=>by simp[bN]at h;omega
 |f+1,a::u,i,bad,buf,e,h=>by
  rw[bN]at h;split at h
  ·exact pU f _ _ _ _ e h
  ·split at h
   ·exact pU f _ _ _ _ e h
   ·split at h
    ·cases h;decide
    ·split at h
     ·cases h;decide
     ·cases h
theorem wR{u:List UInt8}: ∀(L:List (List UInt8)) (e:Int),fZ u L= .err e->e≠0
 | [],e,h=>by simp[fZ]at h;omega
 |y::L,e,h=>by
  rw[fZ]at h;split at h
  ·cases h
  ·exact wR L e h
theorem uI{s:List UInt8}{e:Int}(h:fH s= .err e):e≠0:=by
 cases s with
 |nil=>simp[fH]at h;omega
 |cons c r=>
  unfold fH at h;dsimp only at h;split at h
  ·unfold mV at h
   dsimp only at h;split at h
   ·cases h;decide
   ·cases h
  ·split at h
   ·unfold iy at h
    dsimp only at h;split at h
    ·cases h;decide
    ·cases h
   ·split at h
    ·exact pU _ _ _ _ _ _ h
    ·exact wR _ _ h
@[reducible] def l7 (e a:Int):SV:= .agg [.int .i64 e,.int .i64 a]
def Jn(r:Except (Int×Nat) (List TP)):SV:=match r with
 | .ok []=> .aN [.ak,l7 0 0]
 | .ok (x::l)=> .aN [Ao (x::l),l7 0 0]
 | .error (e,a)=> .aN [.ak,l7 e a]
def yo(ts:List TP)(r:Except (Int×Nat) (List TP)):Except (Int×Nat) (List TP):=match r with
 | .ok l=> .ok (ts++l)
 | .error e=> .error e
theorem uJ{f p:Nat}{s:List UInt8}(h:s≠[]):fy (f+1) s p=if bT (s.getD 0 0)then fy f (s.drop 1) (p+1)else match fH s with
  | .err e=> .error (e,p)
  | .ok x n=>yo [(x,p)] (fy f (s.drop n) (p+n)):=by
 cases s with
 |nil=>exact absurd rfl h
 |cons c r=>
  rw[fy];show _=if bT c then _ else _
  split
  ·rfl
  ·cases ho:fH (c::r)with
   |err e=>rfl
   |ok x n=>
    dsimp only;cases fy f ((c::r).drop n) (p+n)<;>rfl
theorem Aw(a b:List TP)(r:Except (Int×Nat) (List TP)):yo a (yo b r)=yo (a++b) r:=by
 cases r<;>simp[yo]
theorem Ax(r:Except (Int×Nat) (List TP)):yo [] r=r:=by cases r<;>simp[yo]
structure Uy(s:List UInt8)(p:Nat)(ts:List TP):Prop where
 pl:p<=s.length
 tl:ts.length<=p
 go: ∃f,(s.drop p).length<=f/\mI s=yo ts (fy f (s.drop p) p)
inductive uK(s:List UInt8) where
 |E (p:Nat) (h:Uy s p [])
 |L (p g:Nat) (x:TP) (ts:List TP) (h:Uy s p (x::ts))
@[reducible] def Qy:aA:= .vec 0 2 [l7 0 0] ⟨false,some 33⟩
@[reducible] def Qz (x:TP):aA:= .vec 0 4 [gm x] ⟨false,some 57⟩
@[reducible] def uK.env {s:List UInt8}:uK s->Env
  | .E p _=>[(0,SV.str s),(2,SV.ak),(3,SV.ref 0 0 0 0),(11,SV.bool false),(4,SV.ak),(5,SV.int IntKind.i64 p)]
  | .L p g x ts _=>[(0,SV.str s),(2,SV.ak),(3,SV.ref 0 0 0 0),(11,SV.bool false),(4,SV.sl 3 g 4 0 (x::ts).length none),(5,SV.int IntKind.i64 p)]
@[reducible] def uK.hp {s:List UInt8}:uK s->Heap
  | .E _ _=>⟨1,[(0,Qy)]⟩
  | .L p g x ts _=>⟨4,[(3,.vec g 4 ((x::ts).map gm) ⟨true,some 57⟩),(2,Qz x),(1,Qz x),(0,Qy)]⟩
def uK.mu{s:List UInt8}:uK s->Nat
 | .E p _=>s.length-p
 | .L p _ _ _ _=>s.length-p
def uK.nn{s:List UInt8}:uK s->Nat
 | .E p _=>if bT (s.getD p 0)=true then 1 else 4
 | .L .. =>4
theorem l8(r:Except (Int×Nat) (List TP)):bA (Jn r):=by
 have hf: ∀e a:Int,bA (l7 e a):=fun e a=> .agg (by simp only[List.mem_cons,List.not_mem_nil,or_false];rintro _ (rfl|rfl)<;>constructor)
 match r with
 | .ok []=>exact vA .ak (hf _ _)
 | .ok (x::l)=>exact vA (.eR _ _ _) (hf _ _)
 | .error (e,a)=>exact vA .ak (hf _ _)
theorem qN{s:List UInt8}{pos:Nat}{o:One}(hs:s.length<=65536)(h:pos<s.length)(ho:fH (s.drop pos)=o):au Tryz.prog 27 [.str (List.take (((s.length:Nat):Int).toNat-((pos:Nat):Int).toNat) (List.drop ((pos:Nat):Int).toNat s))] (vB o):=by
 rw[uH,<-ho];exact Jm (by rw[List.length_drop];omega) (by rw[drop_cons h];simp)
theorem Eh{s:List UInt8}(hs:s.length<=65536):au Tryz.prog 9 [.str s] (Jn (mI s)):=by
 refine bu (bK (.str _)) (Mg.call mixed rfl ?_);have h0:decide ((65536:Int)<(s.length:Int))=false:=decide_eq_false (by omega);iterate 10 all_goals ((try conv=>whnf);try first|(with_reducible first|refine zY ?_|refine zN ?_|refine zT ?_|refine br (fun _=> ?_) (fun _=> ?_)|refine⟨rfl,?_⟩))
 refine nT (σ:=uK s) uK.env uK.hp uK.mu uK.nn (fun x=>match x with| .E p _=>(by show 1<=if _ then 1 else 4;split<;>decide)| .L .. =>Nat.le_refl 4) ?_ (.E 0 ⟨by omega,by simp,s.length,by simp,by rw[Ax];rfl⟩);rintro(⟨p,hI⟩|⟨p,g,x,ts,hI⟩)
 ·obtain⟨pl,tl,f,hf,hgo⟩:=id hI
  by_cases hl:p<s.length
  ·have hd:decide ((p:Int)<(s.length:Int))=true:=decide_eq_true (by omega)
   have e7:IntKind.i64.wrap ((p:Int)+1)=((p+1:Nat):Int):=bL (by omega);have et:=Int.toNat_natCast p;have ci:=sK (s.getD (p:Int).toNat 0);have cb:=sL (s.getD (p:Int).toNat 0);rw[List.length_drop]at hf;obtain⟨f,rfl⟩: ∃f',f=f'+1:=⟨f-1,by omega⟩;rw[uJ (by rw[drop_cons hl];simp),bY,Nat.add_zero,List.drop_drop]at hgo;cases hb:bT (s.getD p 0)
   ·rw[hb,if_neg (by decide)]at hgo
    rw[show uK.nn (uK.E p hI)=4 from if_neg (by rw[hb];decide)];rw[<- et]at hb;rw[hb]at cb;cases ho:fH (s.drop p)with
    |err e=>
     have co:=qN hs hl ho;have he:=uI ho;have hne:(e !=0)=true:=by rw[bne_iff_ne];exact he
     rw[ho,Ax]at hgo;iterate 24 all_goals ((try conv=>whnf);try first|(with_reducible first|refine zY ?_|refine zN ?_|refine zT ?_|refine br (fun _=> ?_) (fun _=> ?_)|refine⟨rfl,?_⟩|refine au.call (ci) ?_|refine au.call (co) ?_))
     exact leaf (by rw[hgo];rfl) (l8 _)
    |ok x n=>
     have co:=qN hs hl ho;obtain⟨n1,n2,_⟩:=iS ho;rw[List.length_drop]at n2;have e8:IntKind.i64.wrap ((p:Int)+(n:Int))=((p+n:Nat):Int):=by rw[uB (by omega) (by omega)];omega
     rw[ho]at hgo;dsimp only at hgo;rw[Aw,List.nil_append,List.drop_drop]at hgo;iterate 40 all_goals ((try conv=>whnf);try first|(with_reducible first|refine zY ?_|refine zN ?_|refine zT ?_|refine br (fun _=> ?_) (fun _=> ?_)|refine⟨rfl,?_⟩|refine au.call (ci) ?_|refine au.call (co) ?_)|(refine qM (v:=(x,p)) ?_))
     refine⟨.L (p+n) 0 (x,p) [] ⟨by omega,by simp;omega,f,by rw[List.length_drop];omega,hgo⟩,by simp only[uK.mu];omega,by rw[e8];rfl,rfl⟩
   ·rw[hb,if_pos rfl]at hgo
    rw[show uK.nn (uK.E p hI)=1 from if_pos hb];rw[<- et]at hb;rw[hb]at cb;iterate 24 all_goals ((try conv=>whnf);try first|(with_reducible first|refine zY ?_|refine zN ?_|refine zT ?_|refine br (fun _=> ?_) (fun _=> ?_)|refine⟨rfl,?_⟩|refine au.call (ci) ?_))
    refine⟨.E (p+1) ⟨hl,by simp,f,by rw[List.length_drop];omega,hgo⟩,by simp only[uK.mu];omega,by rw[e7],rfl⟩
  ·have hd:decide ((p:Int)<(s.length:Int))=false:=decide_eq_false (by omega)
   have vm:mI s= .ok []:=by
    rw[hgo,List.drop_of_length_le (by omega)];cases f<;>rfl
   iterate 24 all_goals ((try conv=>whnf);try first|(with_reducible first|refine zY ?_|refine zN ?_|refine zT ?_|refine br (fun _=> ?_) (fun _=> ?_)|refine⟨rfl,?_⟩))
   exact leaf (by rw[vm];rfl) (l8 _)
 ·obtain⟨pl,tl,f,hf,hgo⟩:=id hI
  have qg:Nat.beq g g=true:=dK g;rw[show uK.nn (uK.L p g x ts hI)=4 from rfl];simp only[List.length_cons]at tl;by_cases hl:p<s.length
  ·have hd:decide ((p:Int)<(s.length:Int))=true:=decide_eq_true (by omega)
   have e7:IntKind.i64.wrap ((p:Int)+1)=((p+1:Nat):Int):=bL (by omega);have et:=Int.toNat_natCast p;have ci:=sK (s.getD (p:Int).toNat 0);have cb:=sL (s.getD (p:Int).toNat 0);rw[List.length_drop]at hf;obtain⟨f,rfl⟩: ∃f',f=f'+1:=⟨f-1,by omega⟩;rw[uJ (by rw[drop_cons hl];simp),bY,Nat.add_zero,List.drop_drop]at hgo;cases hb:bT (s.getD p 0)
   ·rw[hb,if_neg (by decide)]at hgo
    rw[<- et]at hb;rw[hb]at cb;cases ho:fH (s.drop p)with
    |err e=>
     have co:=qN hs hl ho;have he:=uI ho;have hne:(e !=0)=true:=by rw[bne_iff_ne];exact he
     rw[ho]at hgo;iterate 24 all_goals ((try conv=>whnf);try first|(with_reducible first|refine zY ?_|refine zN ?_|refine zT ?_|refine br (fun _=> ?_) (fun _=> ?_)|refine⟨rfl,?_⟩|refine au.call (ci) ?_|refine au.call (co) ?_))
     exact leaf (by rw[hgo];rfl) (l8 _)
    |ok y n=>
     have co:=qN hs hl ho;obtain⟨n1,n2,_⟩:=iS ho;rw[List.length_drop]at n2;have e8:IntKind.i64.wrap ((p:Int)+(n:Int))=((p+n:Nat):Int):=by rw[uB (by omega) (by omega)];omega
     rw[ho]at hgo;dsimp only at hgo;rw[Aw,List.drop_drop]at hgo;iterate 40 all_goals ((try conv=>whnf);try first|(with_reducible first|refine zY ?_|refine zN ?_|refine zT ?_|refine br (fun _=> ?_) (fun _=> ?_)|refine⟨rfl,?_⟩|refine au.call (ci) ?_|refine au.call (co) ?_)|(refine Jf (i:=3) (vs:=x::ts) (v:=(y,p)) rfl (by omega) (by simp only[List.length_cons];omega) ?_)|(refine bh Aq ?_)|(refine bh (Aq (s:=x::ts)) ?_)|(refine bh (Aq (s:=x::ts++[(y,p)])) ?_)|(refine bh (gR rfl) ?_))
     refine⟨.L (p+n) (g+1) x (ts++[(y,p)]) ⟨by omega,by simp;omega,f,by rw[List.length_drop];omega,hgo⟩,by simp only[uK.mu];omega,?_,?_⟩
     ·rw[e8];simp
     ·simp
   ·rw[hb,if_pos rfl]at hgo
    rw[<- et]at hb;rw[hb]at cb;iterate 24 all_goals ((try conv=>whnf);try first|(with_reducible first|refine zY ?_|refine zN ?_|refine zT ?_|refine br (fun _=> ?_) (fun _=> ?_)|refine⟨rfl,?_⟩|refine au.call (ci) ?_)|(refine bh Aq ?_)|(refine bh (Aq (s:=x::ts)) ?_)|(refine bh (gR rfl) ?_))
    refine⟨.L (p+1) g x ts ⟨hl,by simp;omega,f,by rw[List.length_drop];omega,hgo⟩,by simp only[uK.mu];omega,by rw[e7],rfl⟩
  ·have hd:decide ((p:Int)<(s.length:Int))=false:=decide_eq_false (by omega)
   have hall:mI s= .ok (x::ts):=by
    rw[hgo,List.drop_of_length_le (by omega)];cases f<;>simp[fy,yo]
   iterate 24 all_goals ((try conv=>whnf);try first|(with_reducible first|refine zY ?_|refine zN ?_|refine zT ?_|refine br (fun _=> ?_) (fun _=> ?_)|refine⟨rfl,?_⟩))
   refine⟨_,rfl,?_⟩;rw[hall];show cA _ _ (SV.aN [Ao (x::ts),l7 0 0]);refine .aN rfl fun i v v' a b=> ?_
   rcases i with _|_|i
   ·cases a;cases b;exact Ef (s:=x::ts) rfl rfl
   ·cases a;cases b;exact .lit (.agg (by simp only[List.mem_cons,List.not_mem_nil,or_false];rintro _ (rfl|rfl)<;>constructor))
   ·simp at a
end Go.Proofs.YtbjifmbemdhndaaGreatDoor
namespace Go.Proofs.YtbjifmbemdhndaaGreatDoor
open Ab Go.RowKit
set_option maxRecDepth 100000
set_option maxHeartbeats 4000000
theorem Co{m:Nat}{l:List (Nat×aA)}{i g idx sz:Nat}{elems:List SV}{sk:Sk}{v w:SV}{k:Heap->Prop}(ho:aG l i=some (.vec g sz elems sk))(hi:elems[idx]? =some w)(hw: ∀cs,w≠ .agg cs)(hv:v.one=true)
  (hk:k ⟨m,bC l i (.vec g sz (elems.set idx v) sk)⟩):o9 1 ⟨m,l⟩ (.ref i g idx 0) v k:=by
 have hlt:idx<elems.length:=(List.getElem?_eq_some_iff.1 hi).1
 have key: ∀v:SV,v.one=true->k ⟨m,bC l i (.vec g sz (elems.set idx v) sk)⟩->v.fE fun vs=>cQ (Nat.beq vs.length 1&&ff vs) (dW l i (fun o=>match o with
   | .vec g' sz elems sk=>cQ (Nat.beq g' g) (match iZ elems idx with
     |some w=>rm w v 0 fun w'=>sP elems idx w' fun elems'=>kS l i (.vec g' sz elems' sk) fun l'=>k ⟨m,l'⟩
     |none=>False)
   |_=>False) False):=by
  intro v hv hk
  have inner:dW l i (fun o=>match o with
   | .vec g' sz elems sk=>cQ (Nat.beq g' g) (match iZ elems idx with
     |some w=>rm w v 0 fun w'=>sP elems idx w' fun elems'=>kS l i (.vec g' sz elems' sk) fun l'=>k ⟨m,l'⟩
     |none=>False)
   |_=>False) False:=by
   rw[aW,ho];dsimp only;rw[ah,dV,hi];refine⟨dK g,?_⟩
   have:sP elems idx v fun elems'=>kS l i (.vec g sz elems' sk) fun l'=>k ⟨m,l'⟩:=by
    rw[iH];exact⟨hlt,by rw[dU];exact hk⟩
   cases w<;>first|exact absurd rfl (hw _)|(cases v<;>first|exact this|(simp[SV.one]at hv))
  cases v<;>first|(simp[SV.one]at hv;done)|exact ah.2 ⟨rfl,inner⟩
 exact key v hv hk
def Nf(n:Nat)(h:Heap)(p v:SV)(k:Heap->Prop):Prop:=
 v.fE fun vs=>cQ (Nat.beq vs.length n&&ff vs) (match p,h with
 | .ref i g idx sub,⟨m,hl⟩=>dW hl i (fun o=>match o with
  | .vec g' sz elems sk=>cQ (Nat.beq g' g) (match iZ elems idx with
    |some w=>rm w v sub fun w'=>sP elems idx w' fun elems'=>kS hl i (.vec g' sz elems' sk) fun l'=>k ⟨m,l'⟩
    |none=>False)
  |_=>False) False
 |_,_=>False)
theorem oz{n:Nat}{h:Heap}{p v:SV}{k:Heap->Prop}(hq:Nf n h p v k):o9 n h p v k:=hq
def QA(h:Heap)(p:SV)(k:List SV->Nat->Prop):Prop:=
 match p with
 | .lB v sub=>v.fE fun cs=>k cs sub
 | .cV g=>match qZ g with
   |some v=>v.fE fun cs=>k cs 0
   |none=>False
 | .ref i g idx sub=>match h with
   |⟨_,hl⟩=>dW hl i (fun o=>match o with
    | .vec g' _ elems _=>cQ (Nat.beq g' g) (match iZ elems idx with
     |some v=>v.fE fun cs=>k cs sub
     |none=>False)
    |_=>False) False
 |_=>False
theorem fP{h:Heap}{p:SV}{k:List SV->Nat->Prop}(hq:QA h p k):lH h p k:=hq
abbrev TI:=Tk×Int
@[reducible] def Jo (x:TI):SV:= .agg [.int .u8 x.1.k,.str x.1.t,.int .u64 x.1.n,.int .i64 x.2]
def l9:TI:=(⟨0,[],0⟩,0)
@[reducible] def Cp (l:List TI):SV:= .eR 4 l.length fun i=>Jo (l.getD i l9)
def SU(x:TP):TI:=(x.1,(x.2:Int))
theorem Jp(l:List TP):Ao l=Cp (l.map SU):=by
 unfold Ao Cp;rw[List.length_map];congr 1
 funext i
 have:(l.map SU).getD i l9=SU (l.getD i aH):=by
  simp only[List.getD,List.getElem?_map];cases l[i]? <;>rfl
 rw[this];rfl
def IU(l:List Tk):List TP:=l.map fun x=>(x,0)
end Go.Proofs.YtbjifmbemdhndaaGreatDoor
namespace Go.Proofs.YtbjifmbemdhndaaGreatDoor
open Ab Go.RowKit
set_option maxRecDepth 100000
set_option maxHeartbeats 4000000
attribute [local irreducible] aO bx
theorem mP: ∀(f:Nat) (s:List UInt8) (p:Nat) (e:Int) (a:Nat),fy f s p= .error (e,a)->e≠0
 |0,_,_,_,_,h=>by simp[fy]at h
 |f+1,[],_,_,_,h=>by simp[fy]at h
 |f+1,c::r,p,e,a,h=>by
  rw[fy]at h;split at h
  ·exact mP f r (p+1) e a h
  ·split at h
   ·rename_i ho
    cases h
    exact uI ho
   ·split at h
    ·rename_i hl
     cases h
     exact mP f _ _ e a hl
    ·cases h
theorem Fw: ∀ {s:List UInt8} {p:Nat} {l:List TP},um s p l->l.length<=s.length:=by
 intro s p l h
 induction h with
 |none h=>simp
 |some hb hc ho h ih=>
  obtain⟨h1,h2,_⟩:=iS ho;rw[List.length_drop]at ih;simp only[List.length_cons,List.length_append];omega
end Go.Proofs.YtbjifmbemdhndaaGreatDoor
namespace Go.Proofs.YtbjifmbemdhndaaGreatDoor
open Go.Shelf Go.RowKit Go.Sort Go.Lib
section
theorem Ay(w:World)(T:TypeId)(nd:Nat)(hs:nd<=24):Holds (fun(b:UInt8)=>Value.int .u8 (b.toNat:Int)) (w.alloc (.cells Lib.zeros24 T)) w.heap.size 0 (Array.replicate nd (0:UInt8)):=fun j hj=>by
 have hj':j<nd:=by simpa using hj
 refine⟨?_,World.frozen?_alloc_new _ _ _ _⟩;rw[World.cell?_alloc_new,zeros24_at _ (by omega),getElem!_pos _ j hj];simp
theorem HE(w:World)(o:Obj)(dk:Array UInt8)(k:Nat): ∃os,(putRow (fun(b:UInt8)=>Value.int .u8 (b.toNat:Int)) (w.alloc o) w.heap.size 0 dk).drewN k=grow (w.drewN k) os:=by
 rw[alloc_eq_grow];obtain⟨os',_,e⟩:=putRow_grow_new (fun(b:UInt8)=>Value.int .u8 (b.toNat:Int)) w #[o] w.heap.size 0 dk (Nat.le_refl _);exact⟨os',by rw[e];rfl⟩
set_option maxHeartbeats 6400000 in
set_option maxRecDepth 100000 in
theorem vD (u:Nat) (hu64:u<18446744073709551616) (w:World) (htab:Lib.TabIs Tryz.prog w "internal/strconv.uint64pow10" .u64 Lib.pow10Tab):
  Calls Tryz.prog 170 #[.int .u64 u,.int .i64 10] w fun e w'=>e= .returned (.string ⟨(Lib.decDigits u).toArray⟩)/\ ∃k os,w'=grow (w.drewN k) os:=by
 have V5: ∀args w,(callFunc 205 args).run Tryz.prog w= .ok (.enter 205 args) w:=enters_of Tryz.func205 (by kernel_rfl) rfl;have V6: ∀args w,(callFunc 206 args).run Tryz.prog w= .ok (.enter 206 args) w:=enters_of Tryz.func206 (by kernel_rfl) rfl;have V7: ∀args w,(callFunc 207 args).run Tryz.prog w= .ok (.enter 207 args) w:=enters_of Tryz.func207 (by kernel_rfl) rfl;by_cases hs:u<100
 ·go_enter Tryz.func170,Tryz.ntmps170
  go_wp2_with (go_at_fn (205);refine(Any.internal_strconv_small Tryz.I8 u hs _).mono ?_;rintro e w' ⟨rfl,rfl⟩)
  go_ret
  exact⟨rfl,0,#[],by simp[World.drewN_zero]⟩
 ·have Ry:1<=u:=by omega
  have Uz:Lib.nDigits u<=20:=by have:=Lib.numDigits_eq u Ry hu64;split at this<;>omega
  have X7:Lib.nDigits u<=24:=by omega
  have L:=Tryz.I9;have hal:Tryz.prog.arrayLen 204=24:=by kernel_rfl
  have t171:=Tryz.underlying204
  have V8: ∀W,(Instr.sliceAt 204 (.pointer (some ⟨w.heap.size,0,none⟩)) none (some (.int .i64 (Lib.nDigits u:Int))) none).run Tryz.prog W= .ok (.slice (some ⟨w.heap.size,0,none⟩) (Lib.nDigits u) 24) W:=fun W=>by
   rw[run_sliceAt_array_h W 204 ⟨w.heap.size,0,none⟩ (by kernel_rfl) .i64 (Lib.nDigits u:Int) (by omega) (by rw[hal];omega)]
   go_simp
  have SW:=Ay w 204 (Lib.nDigits u) (by omega);have hfmt:=Any.internal_strconv_formatBase10 L w.heap.size 0 24 u (Array.replicate (Lib.nDigits u) 0) (w.alloc (.cells Lib.zeros24 204)) SW (by rw[Array.size_replicate];exact Lib.lt_pow_nDigits u) hu64 (by rw[Array.size_replicate];omega);rw[Array.size_replicate]at hfmt;have V9:=Lib.hid SW;clear SW hal
  go_enter Tryz.func170,Tryz.ntmps170
  go_wp2_with (first
   |(go_at_fn (206);refine(Any.internal_strconv_numDigits Tryz.G5 u Ry hu64 _ (Lib.tabIs_alloc htab _)).mono ?_;rintro e w' ⟨rfl,rfl⟩))
  go_at_fn (207)
  refine hfmt.mono ?_;rintro e w' ⟨rfl,k,v',dk,rfl,hF⟩
  have X8:(convert 82 9 (.slice (some ⟨w.heap.size,0,none⟩) (Lib.nDigits u) 24)).run Tryz.prog ((putRow (fun(b:UInt8)=>Value.int .u8 (b.toNat:Int)) (w.alloc (.cells Lib.zeros24 204)) w.heap.size 0 dk).drewN k)= .ok (.string ⟨(Lib.decDigits u).toArray⟩) ((putRow (fun(b:UInt8)=>Value.int .u8 (b.toNat:Int)) (w.alloc (.cells Lib.zeros24 204)) w.heap.size 0 dk).drewN k):=by
   have h:=run_convert_bytes_back (P:=Tryz.prog) ((putRow (fun(b:UInt8)=>Value.int .u8 (b.toNat:Int)) (w.alloc (.cells Lib.zeros24 204)) w.heap.size 0 dk).drewN k) 82 9 5 ⟨w.heap.size,0,none⟩ 24 (Lib.decDigits u) Tryz.underlying82 Tryz.underlying5 Tryz.underlying9 (fun j hj=>by
    rw[Lib.row_is_numeral hF j hj,Lib.add_plain,World.cell?_drewN];exact cell?_putRow (fun(b:UInt8)=>Value.int .u8 (b.toNat:Int)) _ w.heap.size 0 _ dk V9.out (by rw[hF.size,Array.size_replicate]) j (by rw[hF.size];rw[Lib.decDigits_length]at hj;exact hj))
   rw[Lib.decDigits_length]at h;exact h
  go_wp2
  go_ret
  obtain⟨os,eo⟩:=HE w (.cells Lib.zeros24 204) dk k;exact⟨rfl,k,os,eo⟩
end
end Go.Proofs.YtbjifmbemdhndaaGreatDoor
namespace Ab
open Go
def jk(b:UInt8)(nw:List UInt8):List UInt8->List UInt8
 | []=>[]
 |c::r=>(if c=b then nw else[c])++jk b nw r
theorem nW(b:UInt8)(nw:List UInt8): ∀s t:List UInt8,jk b nw (s++t)=jk b nw s++jk b nw t
 | [],t=>rfl
 |c::r,t=>by simp only[List.cons_append,jk,nW b nw r t,List.append_assoc]
theorem oA(b:UInt8)(nw:List UInt8): ∀s:List UInt8,s.count b=0->jk b nw s=s
 | [],_=>rfl
 |c::r,h=>by
  have hc:c≠b:=fun e=>by rw[e,List.count_cons_self]at h;omega
  rw[List.count_cons_of_ne hc]at h;rw[jk,if_neg hc,oA b nw r h,List.singleton_append]
theorem Az(b:UInt8){nw:List UInt8}{k:Nat}(hk:nw.length<=k)(h1:1<=k): ∀s:List UInt8,(jk b nw s).length<=k*s.length
 | []=>by simp[jk]
 |c::r=>by
  have:=Az b hk h1 r;rw[jk,List.length_append,List.length_cons,Nat.mul_add,Nat.mul_one];split
  ·omega
  ·rw[List.length_singleton];omega
theorem nX(c:UInt8): ∀s:List UInt8,0<s.count c-> ∃p r,s=p++c::r/\p.count c=0/\Lib.indexByte s c=(p.length:Int)
 | [],h=>by simp at h
 |d::s,h=>by
  by_cases hd:d=c
  ·subst hd
   exact⟨[],s,rfl,rfl,by simp[Lib.indexByte]⟩
  ·rw[List.count_cons_of_ne hd]at h
   obtain⟨p,r,h1,h2,h3⟩:=nX c s h;refine⟨d::p,r,by rw[h1];rfl,by rw[List.count_cons_of_ne hd,h2],?_⟩;rw[Lib.indexByte,if_neg (by simpa using hd),h3,if_neg (by simp only[beq_iff_eq];omega),List.length_cons];omega
end Ab
