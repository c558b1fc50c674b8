/- Parts of the proof of PParserBlanks, one behind the other, with short names. -/
import Derived.Test.YtbjifmbemdhndaaGreatDoorZ28
import Derived.KernelRfl
import Derived.Test.YtbjifmbemdhndaaGreatDoorZ20
import Derived.Test.YtbjifmbemdhndaaGreatDoorZ21
import Derived.Lib.ValidLaws
import Derived.Lib.ItoaNum
import Derived.Test.YtbjifmbemdhndaaGreatDoorZ27
import Derived.Lib.Bytealg
import Derived.Test.YtbjifmbemdhndaaGreatDoorZ24
import Derived.Shelf.Strconv.Itoa1
import Derived.Shelf.Strconv.Itoa2
import Derived.Lib.Walk
import Derived.Lib.ItoaMem
import Derived.WalkKit
import Derived.BigCall
import Derived.BigGuard
set_option linter.unusedVariables false
set_option linter.unusedSimpArgs false
namespace Go.Proofs.YtbjifmbemdhndaaGreatDoor
open Ab Go.RowKit
set_option maxRecDepth 1000000
set_option maxHeartbeats 8000000
def Mn:List (Nat×cE):=[(79,t79),(129,t129)]
theorem KH:gv Tryz.prog Mn:= .cons Mj (.cons Dy (.nil))
def Mq:List SV:=[.str [60,62],.str [60,61],.str [62,61],.str [124,124],.str [40],.str [41],.str [44],.str [59],.str [46],.str [42],.str [43],.str [45],.str [47],.str [37],.str [61],.str [60],.str [62]]
def Mr:cG->Heap->Prop:=fun r h'=> ∃v',r= .ret v'/\cq h' v' (.dm 1 17 fun i=> .str (eY.getD i []))
theorem GJ:aj Tryz.prog 79 [] (.dm 1 17 fun i=> .str (eY.getD i [])):=by
 refine bQ (fun _ h=>by simp at h) ((tD mixed KH 60).1.call _ _ _ _ (Eq.mpr (show(lvl Tryz.prog Mn 60).1.call 79 [] ⟨0,[]⟩ Mr=Mr (.ret (.sl 0 0 1 0 17 (some 17))) ⟨1,[(0,.vec 0 1 Mq ⟨false,some 9⟩)]⟩ by kernel_rfl) ?_));refine⟨_,rfl,?_⟩;exact wk (elems:=Mq) (get:=fun i=> .str (eY.getD i [])) rfl ⟨rfl,.str _,rfl,.str _,rfl,.str _,rfl,.str _,rfl,.str _,rfl,.str _,rfl,.str _,rfl,.str _,rfl,.str _,rfl,.str _,rfl,.str _,rfl,.str _,rfl,.str _,rfl,.str _,rfl,.str _,rfl,.str _,rfl,.str _,trivial⟩
theorem KI{s:List UInt8}(hs:s.length<=100000)(hne:s≠[]):aj Tryz.prog 27 [.str s] (xD (gN s)):=by
 refine bQ (cZ (.str _)) (L1.call mixed rfl ?_);have hpos:0<s.length:=by cases s with|nil=>exact absurd rfl hne|cons c r=>simp
 have hl:=wD (s.getD (Int.toNat 0) 0);have hg:=tL (s.getD (Int.toNat 0) 0)
 have eo:gN s=if cL (s.getD 0 0)then ov s else if isDigit (s.getD 0 0)then jv s else if s.getD 0 0==39 then rY s else gQ s eY:=by
  cases s with
  |nil=>exact absurd rfl hne
  |cons c r=>rfl
 have e0:Int.toNat 0=0:=rfl;cases h1:cL (s.getD (Int.toNat 0) 0)
 ·have H8:=h1
  rw[e0]at h1;rw[h1,if_neg (by decide)]at eo;cases h2:isDigit (s.getD (Int.toNat 0) 0)
  ·have oL:=h2
   rw[e0]at h2;rw[h2,if_neg (by decide)]at eo;by_cases h3:s.getD 0 0=39
   ·have h4:(((s.getD (Int.toNat 0) 0).toNat:Int)==39)=true:=by rw[e0,h3];rfl
    rw[h3,if_pos (by decide)]at eo;have ht:=I4 hs h3 hne;cases hT:rY s
    all_goals rw[hT]at ht
    all_goals iterate 20 all_goals ((try conv=>whnf);try first|(with_reducible first|refine zY ?_|refine zN ?_|refine zT ?_|refine br (fun _=> ?_) (fun _=> ?_)|refine⟨rfl,?_⟩|refine aj.call (hl) ?_|refine aj.call (hg) ?_|refine aj.call (ht) ?_))
    all_goals exact leaf (by rw[eo,hT];rfl) (di _)
   ·have h4:(((s.getD (Int.toNat 0) 0).toNat:Int)==39)=false:=by
     rw[e0,beq_eq_false_iff_ne];intro e;exact h3 (UInt8.toNat_inj.1 (by have:(39:UInt8).toNat=39:=rfl;omega))
    rw[if_neg (by simpa using h3)]at eo;have hp: ∀p:List UInt8,p.length<=1000000->aj Tryz.prog 80 [.str s,.str p] (.bool (p.isPrefixOf s)):=fun p h=>qH h
    iterate 14 all_goals ((try conv=>whnf);try first|(with_reducible first|refine zY ?_|refine zN ?_|refine zT ?_|refine br (fun _=> ?_) (fun _=> ?_)|refine⟨rfl,?_⟩|refine aj.call (hl) ?_|refine aj.call (hg) ?_|refine aj.call (GJ) ?_))
    refine pI (σ:={i:Nat // i<=17/\gQ s eY=gQ s (eY.drop i)}) (fun x=>[(0,SV.str s),(2,SV.ref 0 0 0 0),(3,SV.int IntKind.i64 0),(4,SV.int IntKind.i64 0),(5,SV.int IntKind.u8 ((s.getD (Int.toNat 0) 0).toNat:Int)),(10,SV.bool false),(18,SV.bool false),(26,SV.bool false),(34,SV.dm 1 17 fun i=>SV.str (eY.getD i [])),(35,SV.int IntKind.i64 ((17:Nat):Int)),(36,SV.int IntKind.i64 x.1)])
     (fun _=>⟨1,[(0,zS)]⟩) (fun x=>17-x.1) ?_ ⟨0,by omega,rfl⟩
    rintro⟨i,hi,he⟩;dsimp only;by_cases hil:i<17
    ·have hd:decide ((i:Int)<((17:Nat):Int))=true:=decide_eq_true (by omega)
     have e7:IntKind.i64.wrap ((i:Int)+1)=((i+1:Nat):Int):=bN (by omega);have et:=Int.toNat_natCast i
     have hlen:(eY.getD (i:Int).toNat []).length<=1000000:=by
      rw[et];have: ∀j:Fin 17,(eY.getD j.val []).length<=1000000:=by decide
      exact this ⟨i,hil⟩
     have LM:=hp _ hlen
     have hdc:eY.drop i=eY.getD (i:Int).toNat []::eY.drop (i+1):=by
      rw[et];have: ∀j:Fin 17,eY.drop j.val=eY.getD j.val []::eY.drop (j.val+1):=by decide
      exact this ⟨i,hil⟩
     rw[hdc,gQ]at he;cases hx:(eY.getD (i:Int).toNat []).isPrefixOf s
     ·rw[hx,if_neg (by decide)]at he
      iterate 16 all_goals ((try conv=>whnf);try first|(with_reducible first|refine zY ?_|refine zN ?_|refine zT ?_|refine br (fun _=> ?_) (fun _=> ?_)|refine⟨rfl,?_⟩|refine aj.call (LM) ?_))
      exact⟨⟨i+1,hil,he⟩,by dsimp only;omega,by rw[e7],rfl⟩
     ·rw[hx,if_pos rfl]at he
      iterate 16 all_goals ((try conv=>whnf);try first|(with_reducible first|refine zY ?_|refine zN ?_|refine zT ?_|refine br (fun _=> ?_) (fun _=> ?_)|refine⟨rfl,?_⟩|refine aj.call (LM) ?_))
      exact leaf (by rw[eo,he];rfl) (di _)
    ·have hd:decide ((i:Int)<((17:Nat):Int))=false:=decide_eq_false (by omega)
     iterate 16 all_goals ((try conv=>whnf);try first|(with_reducible first|refine zY ?_|refine zN ?_|refine zT ?_|refine br (fun _=> ?_) (fun _=> ?_)|refine⟨rfl,?_⟩))
     obtain rfl:i=17:=by omega
     exact leaf (by rw[eo,he];rfl) (di _)
  ·have oL:=h2
   rw[e0]at h2;have hn:=DI hs h2 hne;rw[h2,if_pos rfl]at eo;cases hT:jv s
   all_goals rw[hT]at hn
   all_goals iterate 20 all_goals ((try conv=>whnf);try first|(with_reducible first|refine zY ?_|refine zN ?_|refine zT ?_|refine br (fun _=> ?_) (fun _=> ?_)|refine⟨rfl,?_⟩|refine aj.call (hl) ?_|refine aj.call (hg) ?_|refine aj.call (hn) ?_))
   all_goals exact leaf (by rw[eo,hT];rfl) (di _)
 ·have H8:=h1
  rw[e0]at h1;have hw:=IZ hs;rw[h1,if_pos rfl]at eo;cases hT:ov s
  all_goals rw[hT]at hw
  all_goals iterate 20 all_goals ((try conv=>whnf);try first|(with_reducible first|refine zY ?_|refine zN ?_|refine zT ?_|refine br (fun _=> ?_) (fun _=> ?_)|refine⟨rfl,?_⟩|refine aj.call (hl) ?_|refine aj.call (hg) ?_|refine aj.call (hw) ?_))
  all_goals exact leaf (by rw[eo,hT];rfl) (di _)
end Go.Proofs.YtbjifmbemdhndaaGreatDoor
namespace Go.Proofs.YtbjifmbemdhndaaGreatDoor
open Ab Go.RowKit
set_option maxRecDepth 100000
set_option maxHeartbeats 4000000
attribute [local irreducible] bB cH
theorem uG(c:UInt8):aj Tryz.prog 26 [.str [9,10,13,32],.int .u8 (c.toNat:Int)] (.int .i64 (Go.Lib.indexByte [9,10,13,32] c)):=by
 refine bQ (kE (.str _) (.int _ _)) (L0.call mixed rfl ?_);iterate 6 all_goals ((try conv=>whnf);try first|(with_reducible first|refine zY ?_|refine zN ?_|refine zT ?_|refine br (fun _=> ?_) (fun _=> ?_)|refine⟨rfl,?_⟩)|(refine Me.call mixed rfl ?_))
 refine leaf ?_ (.int _ _);have e:(Int.toNat (c.toNat:Int)).toUInt8=c:=by rw[Int.toNat_natCast];simp
 show SV.int .i64 (Lib.indexByte [9,10,13,32] (Int.toNat (c.toNat:Int)).toUInt8)=_;rw[e]
theorem uH(c:UInt8):decide (0<=Go.Lib.indexByte [9,10,13,32] c)=cD c:=by
 have: ∀n:Fin 256,decide (0<=Go.Lib.indexByte [9,10,13,32] (UInt8.ofNat n.val))=cD (UInt8.ofNat n.val):=by decide +kernel
 have h:=this ⟨c.toNat,UInt8.toNat_lt c⟩;simp only[UInt8.ofNat_toNat]at h;exact h
theorem ru: ∀(f:Nat) (u:List UInt8) (i:Nat) (bad:Bool) (buf:List UInt8) (e:Int),cA f u i bad buf= .err e->e≠0
 |0,_,_,_,_,e,h=>by simp[cA]at h;omega
 |f+1,[],_,_,_,e,h=>by simp[cA]at h;omega
 |f+1,a::u,i,bad,buf,e,h=>by
  rw[cA]at h;split at h
  ·exact ru f _ _ _ _ e h
  ·split at h
   ·exact ru f _ _ _ _ e h
   ·split at h
    ·cases h;decide
    ·split at h
     ·cases h;decide
     ·cases h
theorem yI{u:List UInt8}: ∀(L:List (List UInt8)) (e:Int),gQ u L= .err e->e≠0
 | [],e,h=>by simp[gQ]at h;omega
 |y::L,e,h=>by
  rw[gQ]at h;split at h
  ·cases h
  ·exact yI L e h
theorem wF{s:List UInt8}{e:Int}(h:gN s= .err e):e≠0:=by
 cases s with
 |nil=>simp[gN]at h;omega
 |cons c r=>
  unfold gN at h;dsimp only at h;split at h
  ·unfold ov at h
   dsimp only at h;split at h
   ·cases h;decide
   ·cases h
  ·split at h
   ·unfold jv at h
    dsimp only at h;split at h
    ·cases h;decide
    ·cases h
   ·split at h
    ·exact ru _ _ _ _ _ _ h
    ·exact yI _ _ h
@[reducible] def wG (e a:Int):SV:= .agg [.int .i64 e,.int .i64 a]
def KJ(r:Except (Int×Nat) (List TP)):SV:=match r with
 | .ok []=> .bn [.ak,wG 0 0]
 | .ok (x::l)=> .bn [Gz (x::l),wG 0 0]
 | .error (e,a)=> .bn [.ak,wG e a]
def zU(ts:List TP)(r:Except (Int×Nat) (List TP)):Except (Int×Nat) (List TP):=match r with
 | .ok l=> .ok (ts++l)
 | .error e=> .error e
theorem wH{f p:Nat}{s:List UInt8}(h:s≠[]):ga (f+1) s p=if cD (s.getD 0 0)then ga f (s.drop 1) (p+1)else match gN s with
  | .err e=> .error (e,p)
  | .ok x n=>zU [(x,p)] (ga f (s.drop n) (p+n)):=by
 cases s with
 |nil=>exact absurd rfl h
 |cons c r=>
  rw[ga];show _=if cD c then _ else _
  split
  ·rfl
  ·cases ho:gN (c::r)with
   |err e=>rfl
   |ok x n=>
    dsimp only;cases ga f ((c::r).drop n) (p+n)<;>rfl
theorem BN(a b:List TP)(r:Except (Int×Nat) (List TP)):zU a (zU b r)=zU (a++b) r:=by
 cases r<;>simp[zU]
theorem BO(r:Except (Int×Nat) (List TP)):zU [] r=r:=by cases r<;>simp[zU]
structure VU(s:List UInt8)(p:Nat)(ts:List TP):Prop where
 pl:p<=s.length
 tl:ts.length<=p
 go: ∃f,(s.drop p).length<=f/\xC s=zU ts (ga f (s.drop p) p)
inductive wI(s:List UInt8) where
 |E (p:Nat) (h:VU s p [])
 |L (p g:Nat) (x:TP) (ts:List TP) (h:VU s p (x::ts))
@[reducible] def R8:aG:= .vec 0 2 [wG 0 0] ⟨false,some 33⟩
@[reducible] def R9 (x:TP):aG:= .vec 0 4 [me x] ⟨false,some 57⟩
@[reducible] def wI.env {s:List UInt8}:wI s->Env
  | .E p _=>[(0,SV.str s),(2,SV.ak),(3,SV.ref 0 0 0 0),(11,SV.bool false),(4,SV.ak),(5,SV.int IntKind.i64 p)]
  | .L p g x ts _=>[(0,SV.str s),(2,SV.ak),(3,SV.ref 0 0 0 0),(11,SV.bool false),(4,SV.sl 3 g 4 0 (x::ts).length none),(5,SV.int IntKind.i64 p)]
@[reducible] def wI.hp {s:List UInt8}:wI s->Heap
  | .E _ _=>⟨1,[(0,R8)]⟩
  | .L p g x ts _=>⟨4,[(3,.vec g 4 ((x::ts).map me) ⟨true,some 57⟩),(2,R9 x),(1,R9 x),(0,R8)]⟩
def wI.mu{s:List UInt8}:wI s->Nat
 | .E p _=>s.length-p
 | .L p _ _ _ _=>s.length-p
def wI.nn{s:List UInt8}:wI s->Nat
 | .E p _=>if cD (s.getD p 0)=true then 1 else 4
 | .L .. =>4
theorem kI(r:Except (Int×Nat) (List TP)):bJ (KJ r):=by
 have hf: ∀e a:Int,bJ (wG e a):=fun e a=> .agg (by simp only[List.mem_cons,List.not_mem_nil,or_false];rintro _ (rfl|rfl)<;>constructor)
 match r with
 | .ok []=>exact Dn .ak (hf _ _)
 | .ok (x::l)=>exact Dn (.dm _ _ _) (hf _ _)
 | .error (e,a)=>exact Dn .ak (hf _ _)
theorem sB{s:List UInt8}{pos:Nat}{o:One}(hs:s.length<=65536)(h:pos<s.length)(ho:gN (s.drop pos)=o):aj Tryz.prog 27 [.str (List.take (((s.length:Nat):Int).toNat-((pos:Nat):Int).toNat) (List.drop ((pos:Nat):Int).toNat s))] (xD o):=by
 rw[wE,<-ho];exact KI (by rw[List.length_drop];omega) (by rw[drop_cons h];simp)
theorem Fw{s:List UInt8}(hs:s.length<=65536):aj Tryz.prog 9 [.str s] (KJ (xC s)):=by
 refine bQ (cZ (.str _)) (Rl.call mixed rfl ?_);have h0:decide ((65536:Int)<(s.length:Int))=false:=decide_eq_false (by omega);iterate 10 all_goals ((try conv=>whnf);try first|(with_reducible first|refine zY ?_|refine zN ?_|refine zT ?_|refine br (fun _=> ?_) (fun _=> ?_)|refine⟨rfl,?_⟩))
 refine ig (σ:=wI s) wI.env wI.hp wI.mu wI.nn (fun x=>match x with| .E p _=>(by show 1<=if _ then 1 else 4;split<;>decide)| .L .. =>Nat.le_refl 4) ?_ (.E 0 ⟨by omega,by simp,s.length,by simp,by rw[BO];rfl⟩);rintro(⟨p,hI⟩|⟨p,g,x,ts,hI⟩)
 ·obtain⟨pl,tl,f,hf,hgo⟩:=id hI
  by_cases hl:p<s.length
  ·have hd:decide ((p:Int)<(s.length:Int))=true:=decide_eq_true (by omega)
   have e7:IntKind.i64.wrap ((p:Int)+1)=((p+1:Nat):Int):=bN (by omega);have et:=Int.toNat_natCast p;have ci:=uG (s.getD (p:Int).toNat 0);have cb:=uH (s.getD (p:Int).toNat 0);rw[List.length_drop]at hf;obtain⟨f,rfl⟩: ∃f',f=f'+1:=⟨f-1,by omega⟩;rw[wH (by rw[drop_cons hl];simp),cV,Nat.add_zero,List.drop_drop]at hgo;cases hb:cD (s.getD p 0)
   ·rw[hb,if_neg (by decide)]at hgo
    rw[show wI.nn (wI.E p hI)=4 from if_neg (by rw[hb];decide)];rw[<- et]at hb;rw[hb]at cb;cases ho:gN (s.drop p)with
    |err e=>
     have co:=sB hs hl ho;have he:=wF ho;have hne:(e !=0)=true:=by rw[bne_iff_ne];exact he
     rw[ho,BO]at hgo;iterate 24 all_goals ((try conv=>whnf);try first|(with_reducible first|refine zY ?_|refine zN ?_|refine zT ?_|refine br (fun _=> ?_) (fun _=> ?_)|refine⟨rfl,?_⟩|refine aj.call (ci) ?_|refine aj.call (co) ?_))
     exact leaf (by rw[hgo];rfl) (kI _)
    |ok x n=>
     have co:=sB hs hl ho;obtain⟨n1,n2,_⟩:=lQ ho;rw[List.length_drop]at n2;have e8:IntKind.i64.wrap ((p:Int)+(n:Int))=((p+n:Nat):Int):=by rw[w8 (by omega) (by omega)];omega
     rw[ho]at hgo;dsimp only at hgo;rw[BN,List.nil_append,List.drop_drop]at hgo;iterate 40 all_goals ((try conv=>whnf);try first|(with_reducible first|refine zY ?_|refine zN ?_|refine zT ?_|refine br (fun _=> ?_) (fun _=> ?_)|refine⟨rfl,?_⟩|refine aj.call (ci) ?_|refine aj.call (co) ?_)|(refine IV (v:=(x,p)) ?_))
     refine⟨.L (p+n) 0 (x,p) [] ⟨by omega,by simp;omega,f,by rw[List.length_drop];omega,hgo⟩,by simp only[wI.mu];omega,by rw[e8];rfl,rfl⟩
   ·rw[hb,if_pos rfl]at hgo
    rw[show wI.nn (wI.E p hI)=1 from if_pos hb];rw[<- et]at hb;rw[hb]at cb;iterate 24 all_goals ((try conv=>whnf);try first|(with_reducible first|refine zY ?_|refine zN ?_|refine zT ?_|refine br (fun _=> ?_) (fun _=> ?_)|refine⟨rfl,?_⟩|refine aj.call (ci) ?_))
    refine⟨.E (p+1) ⟨hl,by simp,f,by rw[List.length_drop];omega,hgo⟩,by simp only[wI.mu];omega,by rw[e7],rfl⟩
  ·have hd:decide ((p:Int)<(s.length:Int))=false:=decide_eq_false (by omega)
   have xj:xC s= .ok []:=by
    rw[hgo,List.drop_of_length_le (by omega)];cases f<;>rfl
   iterate 24 all_goals ((try conv=>whnf);try first|(with_reducible first|refine zY ?_|refine zN ?_|refine zT ?_|refine br (fun _=> ?_) (fun _=> ?_)|refine⟨rfl,?_⟩))
   exact leaf (by rw[xj];rfl) (kI _)
 ·obtain⟨pl,tl,f,hf,hgo⟩:=id hI
  have qg:Nat.beq g g=true:=iF g;rw[show wI.nn (wI.L p g x ts hI)=4 from rfl];simp only[List.length_cons]at tl;by_cases hl:p<s.length
  ·have hd:decide ((p:Int)<(s.length:Int))=true:=decide_eq_true (by omega)
   have e7:IntKind.i64.wrap ((p:Int)+1)=((p+1:Nat):Int):=bN (by omega);have et:=Int.toNat_natCast p;have ci:=uG (s.getD (p:Int).toNat 0);have cb:=uH (s.getD (p:Int).toNat 0);rw[List.length_drop]at hf;obtain⟨f,rfl⟩: ∃f',f=f'+1:=⟨f-1,by omega⟩;rw[wH (by rw[drop_cons hl];simp),cV,Nat.add_zero,List.drop_drop]at hgo;cases hb:cD (s.getD p 0)
   ·rw[hb,if_neg (by decide)]at hgo
    rw[<- et]at hb;rw[hb]at cb;cases ho:gN (s.drop p)with
    |err e=>
     have co:=sB hs hl ho;have he:=wF ho;have hne:(e !=0)=true:=by rw[bne_iff_ne];exact he
     rw[ho]at hgo;iterate 24 all_goals ((try conv=>whnf);try first|(with_reducible first|refine zY ?_|refine zN ?_|refine zT ?_|refine br (fun _=> ?_) (fun _=> ?_)|refine⟨rfl,?_⟩|refine aj.call (ci) ?_|refine aj.call (co) ?_))
     exact leaf (by rw[hgo];rfl) (kI _)
    |ok y n=>
     have co:=sB hs hl ho;obtain⟨n1,n2,_⟩:=lQ ho;rw[List.length_drop]at n2;have e8:IntKind.i64.wrap ((p:Int)+(n:Int))=((p+n:Nat):Int):=by rw[w8 (by omega) (by omega)];omega
     rw[ho]at hgo;dsimp only at hgo;rw[BN,List.drop_drop]at hgo;iterate 40 all_goals ((try conv=>whnf);try first|(with_reducible first|refine zY ?_|refine zN ?_|refine zT ?_|refine br (fun _=> ?_) (fun _=> ?_)|refine⟨rfl,?_⟩|refine aj.call (ci) ?_|refine aj.call (co) ?_)|(refine Kz (i:=3) (vs:=x::ts) (v:=(y,p)) rfl (by omega) (by simp only[List.length_cons];omega) ?_)|(refine aN BG ?_)|(refine aN (BG (s:=x::ts)) ?_)|(refine aN (BG (s:=x::ts++[(y,p)])) ?_)|(refine aN (lU rfl) ?_))
     refine⟨.L (p+n) (g+1) x (ts++[(y,p)]) ⟨by omega,by simp;omega,f,by rw[List.length_drop];omega,hgo⟩,by simp only[wI.mu];omega,?_,?_⟩
     ·rw[e8];simp
     ·simp
   ·rw[hb,if_pos rfl]at hgo
    rw[<- et]at hb;rw[hb]at cb;iterate 24 all_goals ((try conv=>whnf);try first|(with_reducible first|refine zY ?_|refine zN ?_|refine zT ?_|refine br (fun _=> ?_) (fun _=> ?_)|refine⟨rfl,?_⟩|refine aj.call (ci) ?_)|(refine aN BG ?_)|(refine aN (BG (s:=x::ts)) ?_)|(refine aN (lU rfl) ?_))
    refine⟨.L (p+1) g x ts ⟨hl,by simp;omega,f,by rw[List.length_drop];omega,hgo⟩,by simp only[wI.mu];omega,by rw[e7],rfl⟩
  ·have hd:decide ((p:Int)<(s.length:Int))=false:=decide_eq_false (by omega)
   have hall:xC s= .ok (x::ts):=by
    rw[hgo,List.drop_of_length_le (by omega)];cases f<;>simp[ga,zU]
   iterate 24 all_goals ((try conv=>whnf);try first|(with_reducible first|refine zY ?_|refine zN ?_|refine zT ?_|refine br (fun _=> ?_) (fun _=> ?_)|refine⟨rfl,?_⟩))
   refine⟨_,rfl,?_⟩;rw[hall];show cq _ _ (SV.bn [Gz (x::ts),wG 0 0]);refine .bn rfl fun i v v' a b=> ?_
   rcases i with _|_|i
   ·cases a;cases b;exact Ky (s:=x::ts) rfl rfl
   ·cases a;cases b;exact .lit (.agg (by simp only[List.mem_cons,List.not_mem_nil,or_false];rintro _ (rfl|rfl)<;>constructor))
   ·simp at a
end Go.Proofs.YtbjifmbemdhndaaGreatDoor
namespace Go.Proofs.YtbjifmbemdhndaaGreatDoor
open Ab Go.RowKit
set_option maxRecDepth 100000
set_option maxHeartbeats 4000000
def Sb(h:Heap)(p:SV)(k:List SV->Nat->Prop):Prop:=
 match p with
 | .mW v sub=>v.gR fun cs=>k cs sub
 | .dY g=>match s5 g with
   |some v=>v.gR fun cs=>k cs 0
   |none=>False
 | .ref i g idx sub=>match h with
   |⟨_,hl⟩=>ff hl i (fun o=>match o with
    | .vec g' _ elems _=>dO (Nat.beq g' g) (match fT elems idx with
     |some v=>v.gR fun cs=>k cs sub
     |none=>False)
    |_=>False) False
 |_=>False
theorem kJ{h:Heap}{p:SV}{k:List SV->Nat->Prop}(hq:Sb h p k):mq h p k:=hq
def Rc(l:List Tk):List TP:=l.map fun x=>(x,0)
end Go.Proofs.YtbjifmbemdhndaaGreatDoor
namespace Go.Proofs.YtbjifmbemdhndaaGreatDoor
open Ab Go.RowKit
set_option maxRecDepth 100000
set_option maxHeartbeats 4000000
attribute [local irreducible] bB cH
theorem oe: ∀(f:Nat) (s:List UInt8) (p:Nat) (e:Int) (a:Nat),ga f s p= .error (e,a)->e≠0
 |0,_,_,_,_,h=>by simp[ga]at h
 |f+1,[],_,_,_,h=>by simp[ga]at h
 |f+1,c::r,p,e,a,h=>by
  rw[ga]at h;split at h
  ·exact oe f r (p+1) e a h
  ·split at h
   ·rename_i ho
    cases h
    exact wF ho
   ·split at h
    ·rename_i hl
     cases h
     exact oe f _ _ e a hl
    ·cases h
theorem yJ: ∀ {s:List UInt8} {p:Nat} {l:List TP},mE s p l->l.length<=s.length:=by
 intro s p l h
 induction h with
 |none h=>simp
 |some hb hc ho h ih=>
  obtain⟨h1,h2,_⟩:=lQ ho;rw[List.length_drop]at ih;simp only[List.length_cons,List.length_append];omega
end Go.Proofs.YtbjifmbemdhndaaGreatDoor
namespace Go.Proofs.YtbjifmbemdhndaaGreatDoor
open Ab Go.RowKit
set_option maxRecDepth 100000
structure YW(b:UInt8)(nw s:List UInt8) where
 k:Nat
 p:List UInt8
 r:List UInt8
 g:Nat
 hs:s=p++r
 hk:k+r.count b=s.count b
end Go.Proofs.YtbjifmbemdhndaaGreatDoor
namespace Go.Proofs.YtbjifmbemdhndaaGreatDoor
open Ab Go.RowKit
set_option maxRecDepth 100000
set_option maxHeartbeats 4000000
@[reducible] def qx (l:List (List UInt8)):SV:= .dm 1 l.length fun i=> .str (l.getD i [])
end Go.Proofs.YtbjifmbemdhndaaGreatDoor
namespace Go.Proofs.YtbjifmbemdhndaaGreatDoor
open Ab Go.RowKit
set_option maxRecDepth 100000
set_option maxHeartbeats 4000000
attribute [local irreducible] bB cH vC
theorem BP: ∀(s:List (List UInt8)) (k:Nat) (get:Nat->SV),(∀ j,j<s.length->get (k+j)=SV.str (s.getD j []))->agree (s.map SV.str) k get
 | [],_,_,_=>trivial
 |b::r,k,get,h=>by
  refine⟨?_,.str _,BP r (k+1) get fun j hj=> ?_⟩
  ·have:=h 0 (by simp)
   simpa using this.symm
  ·have:=h (j+1) (by simp;omega)
   rw[show k+1+j=k+(j+1) by omega,this];simp[List.getD]
theorem sC{A:Heap}{i g:Nat}{cap:Option Nat}{s:List (List UInt8)}{n:Nat}{sk:Sk}(ho:A.obj i=some (.vec g 1 (s.map SV.str) sk))(hn:n=s.length):cq A (.sl i g 1 0 n cap) (qx s):=by
 subst hn;have:=wk (cap:=cap) (get:=fun i=>SV.str (s.getD i [])) ho (BP s 0 _ fun j _=>by rw[Nat.zero_add]);rw[List.length_map]at this;exact this
end Go.Proofs.YtbjifmbemdhndaaGreatDoor
namespace Go.Proofs.YtbjifmbemdhndaaGreatDoor
open Ab Go.RowKit
set_option maxRecDepth 100000
set_option maxHeartbeats 8000000
def aH:List (List UInt8):=[[97,110,100],[97,115],[97,115,99],[98,101,103,105,110],[98,111,111,108],[98,121],[99,111,109,109,105,116],[99,111,117,110,116],[99,114,101,97,116,101],[100,101,108,101,116,101],[100,101,115,99],[102,97,108,115,101],[102,114,111,109],[103,114,111,117,112],[105,110,100,101,120],[105,110,115,101,114,116],[105,110,116],[105,110,116,111],[105,115],[106,111,105,110],[107,101,121],[108,105,109,105,116],[109,97,120],[109,105,110],[110,111,116],[110,117,108,108],[111,110],[111,114],[111,114,100,101,114],[112,114,105,109,97,114,121],[114,111,108,108,98,97,99,107],[115,97,118,101,112,111,105,110,116],[115,101,108,101,99,116],[115,101,116],[115,117,109],[116,97,98,108,101],[116,101,120,116],[116,111],[116,114,117,101],[117,110,105,113,117,101],[117,112,100,97,116,101],[118,97,108,117,101,115],[119,104,101,114,101]]
def I5:List (Nat×cE):=[(179,t179),(129,t129)]
theorem KK:gv Tryz.prog I5:= .cons IP (.cons Dy (.nil))
def Sc:Nat:=400
def Ms:List SV:=aH.map SV.str
def Oz:cG->Heap->Prop:=fun r h'=> ∃v',r= .ret v'/\cq h' v' (qx aH)
theorem OA:(lvl Tryz.prog I5 Sc).1.call 179 [] ⟨0,[]⟩ Oz=Oz (.ret (.sl 0 0 1 0 43 (some 43))) ⟨1,[(0,.vec 0 1 Ms ⟨false,some 9⟩)]⟩:=by kernel_rfl
theorem KL{n:Nat}{f:FuncId}{R:cG->Heap->Prop}(hp:(lvl Tryz.prog I5 n).1.call f [] ⟨0,[]⟩ R):aZ Tryz.prog f [] ⟨0,[]⟩ R:=(tD mixed KK n).1.call _ _ _ _ hp
theorem OB:Oz (.ret (.sl 0 0 1 0 43 (some 43))) ⟨1,[(0,.vec 0 1 Ms ⟨false,some 9⟩)]⟩:=⟨_,rfl,sC (s:=aH) (g:=0) (sk:=⟨false,some 9⟩) rfl rfl⟩
theorem zV:aj Tryz.prog 179 [] (qx aH):=bQ (fun _ h=>by simp at h) (KL (OA.symm▸OB))
def DJ:List (List UInt8)->List UInt8->Nat->Int
 | [],_,_=> -1
 |x::r,w,k=>if w==x then k else DJ r w (k+1)
def dP(l:List (List UInt8))(w:List UInt8):Bool:=l.any fun x=>w==x
theorem I6: ∀(l:List (List UInt8)) (w:List UInt8) (k:Nat),decide (0<=DJ l w k)=dP l w
 | [],_,_=>rfl
 |x::r,w,k=>by
  have ih:=I6 r w (k+1);unfold dP at ih ⊢;rw[DJ,List.any_cons];cases h:(w==x)with
  |true=>rw[if_pos rfl,Bool.true_or];exact decide_eq_true (by omega)
  |false=>rw[if_neg (by decide),Bool.false_or];exact ih
theorem DK{l:List (List UInt8)}{i:Nat}(h:i<l.length):l.drop i=l.getD i []::l.drop (i+1):=by
 rw[List.drop_eq_getElem_cons h];simp[List.getD,h]
theorem DL{l:List (List UInt8)}{w:List UInt8}(hl:l.length<=100000):aj Tryz.prog 218 [qx l,.str w] (.int .i64 (DJ l w 0)):=by
 refine bQ (kE (.dm _ _ _) (.str _)) (IQ.call mixed rfl ?_);iterate 6 all_goals ((try conv=>whnf);try first|(with_reducible first|refine zY ?_|refine zN ?_|refine zT ?_|refine br (fun _=> ?_) (fun _=> ?_)|refine⟨rfl,?_⟩))
 refine pI (σ:={i:Nat // i<=l.length/\DJ l w 0=DJ (l.drop i) w i}) (fun y=>[(0,qx l),(1,SV.str w),(4,SV.int IntKind.i64 0),(7,SV.int IntKind.i64 l.length),(8,SV.int IntKind.i64 y.1)])
  (fun _=>⟨0,[]⟩) (fun y=>l.length-y.1) ?_ ⟨0,by omega,rfl⟩
 rintro⟨i,hi,he⟩;dsimp only;have e7:IntKind.i64.wrap ((i:Int)+1)=((i+1:Nat):Int):=bN (by omega);have et:=Int.toNat_natCast i;by_cases hil:i<l.length
 ·have hd:decide ((i:Int)<(l.length:Int))=true:=decide_eq_true (by omega)
  have hb:(decide (0<=(i:Int))&&decide ((i:Int)<(l.length:Int)))=true:=by simp only[Bool.and_eq_true,decide_eq_true_eq];omega
  rw[DK hil,DJ,<-et]at he;cases hq:(w==l.getD (i:Int).toNat [])with
  |true=>
   rw[hq,if_pos rfl]at he;iterate 24 all_goals ((try conv=>whnf);try first|(with_reducible first|refine zY ?_|refine zN ?_|refine zT ?_|refine br (fun _=> ?_) (fun _=> ?_)|refine⟨rfl,?_⟩))
   exact leaf (by rw[he,et]) (.int _ _)
  |false=>
   rw[hq,if_neg (by decide),et]at he;iterate 24 all_goals ((try conv=>whnf);try first|(with_reducible first|refine zY ?_|refine zN ?_|refine zT ?_|refine br (fun _=> ?_) (fun _=> ?_)|refine⟨rfl,?_⟩))
   exact⟨⟨i+1,hil,he⟩,by dsimp only;omega,by rw[e7],rfl⟩
 ·have hd:decide ((i:Int)<(l.length:Int))=false:=decide_eq_false (by omega)
  iterate 12 all_goals ((try conv=>whnf);try first|(with_reducible first|refine zY ?_|refine zN ?_|refine zT ?_|refine br (fun _=> ?_) (fun _=> ?_)|refine⟨rfl,?_⟩))
  exact leaf (by rw[he,List.drop_of_length_le (by omega)];rfl) (.int _ _)
theorem xG(w:List UInt8):aj Tryz.prog 144 [.str w] (.bool (dP aH w)):=by
 have hi:=DL (l:=aH) (w:=w) (by decide)
 have hc:aj Tryz.prog 178 [qx aH,.str w] (.bool (dP aH w)):=by
  refine bQ (kE (.dm _ _ _) (.str _)) (IN.call mixed rfl ?_);iterate 8 all_goals ((try conv=>whnf);try first|(with_reducible first|refine zY ?_|refine zN ?_|refine zT ?_|refine br (fun _=> ?_) (fun _=> ?_)|refine⟨rfl,?_⟩|refine aj.call (hi) ?_))
  exact leaf (by rw[I6]) (.bool _)
 refine bQ (cZ (.str _)) (IM.call mixed rfl ?_);iterate 8 all_goals ((try conv=>whnf);try first|(with_reducible first|refine zY ?_|refine zN ?_|refine zT ?_|refine br (fun _=> ?_) (fun _=> ?_)|refine⟨rfl,?_⟩|refine aj.call (zV) ?_|refine aj.call (hc) ?_))
 exact leaf rfl (.bool _)
end Go.Proofs.YtbjifmbemdhndaaGreatDoor
