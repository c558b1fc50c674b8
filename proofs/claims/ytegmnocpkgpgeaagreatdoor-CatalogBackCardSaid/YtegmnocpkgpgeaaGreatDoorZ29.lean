/- Parts of the proof of PCatalogBack, one behind the other, with short names. -/
import Derived.Test.YtegmnocpkgpgeaaGreatDoorZ28
import Derived.KernelRfl
import Derived.Test.YtegmnocpkgpgeaaGreatDoorZ20
set_option linter.unusedVariables false
set_option linter.unusedSimpArgs false
namespace Go.Proofs.YtegmnocpkgpgeaaGreatDoor
open Ab Go.RowKit
set_option maxRecDepth 1000000
set_option maxHeartbeats 8000000
def PK:List (Nat×bI):=[(148,t148),(187,t187)]
theorem NY:jz Tryz.prog PK:= .cons Rt (.cons KO (.nil))
def PL:List SV:=[.str [60,62],.str [60,61],.str [62,61],.str [124,124],.str [40],.str [41],.str [44],.str [59],.str [46],.str [42],.str [43],.str [45],.str [47],.str [37],.str [61],.str [60],.str [62]]
def PN:bu->Heap->Prop:=fun r h'=> ∃v',r= .ret v'/\bA h' v' (.aW 1 17 fun i=> .str (eG.getD i []))
theorem IA:aj Tryz.prog 148 [] (.aW 1 17 fun i=> .str (eG.getD i [])):=by
 refine aG (fun _ h=>by simp at h) ((qs mixed NY 60).1.call _ _ _ _ (Eq.mpr (show(lvl Tryz.prog PK 60).1.call 148 [] ⟨0,[]⟩ PN=PN (.ret (.sl 0 0 1 0 17 (some 17))) ⟨1,[(0,.vec 0 1 PL ⟨false,some 9⟩)]⟩ by kernel_rfl) ?_));refine⟨_,rfl,?_⟩;exact wQ (elems:=PL) (get:=fun i=> .str (eG.getD i [])) rfl ⟨rfl,.str _,rfl,.str _,rfl,.str _,rfl,.str _,rfl,.str _,rfl,.str _,rfl,.str _,rfl,.str _,rfl,.str _,rfl,.str _,rfl,.str _,rfl,.str _,rfl,.str _,rfl,.str _,rfl,.str _,rfl,.str _,rfl,.str _,trivial⟩
theorem NZ{s:List UInt8}(hs:s.length<=100000)(hne:s≠[]):aj Tryz.prog 96 [.str s] (yJ (fG s)):=by
 refine aG (di (.str _)) (Vl.call mixed rfl ?_);have hpos:0<s.length:=by cases s with|nil=>exact absurd rfl hne|cons c r=>simp
 have hl:=w4 (s.getD (Int.toNat 0) 0);have hg:=tW (s.getD (Int.toNat 0) 0)
 have eo:fG s=if bL (s.getD 0 0)then nV s else if isDigit (s.getD 0 0)then iZ s else if s.getD 0 0==39 then nW s else fT s eG:=by
  cases s with
  |nil=>exact absurd rfl hne
  |cons c r=>rfl
 have e0:Int.toNat 0=0:=rfl;cases h1:bL (s.getD (Int.toNat 0) 0)
 ·have QE:=h1
  rw[e0]at h1;rw[h1,if_neg (by decide)]at eo;cases h2:isDigit (s.getD (Int.toNat 0) 0)
  ·have pn:=h2
   rw[e0]at h2;rw[h2,if_neg (by decide)]at eo;by_cases h3:s.getD 0 0=39
   ·have h4:(((s.getD (Int.toNat 0) 0).toNat:Int)==39)=true:=by rw[e0,h3];rfl
    rw[h3,if_pos (by decide)]at eo;have ht:=K5 hs h3 hne;cases hT:nW s
    all_goals rw[hT]at ht
    all_goals iterate 20 all_goals ((try conv=>whnf);try first|(with_reducible first|refine zY ?_|refine zN ?_|refine zT ?_|refine br (fun _=> ?_) (fun _=> ?_)|refine⟨rfl,?_⟩|refine aj.call (hl) ?_|refine aj.call (hg) ?_|refine aj.call (ht) ?_))
    all_goals exact leaf (by rw[eo,hT];rfl) (cJ _)
   ·have h4:(((s.getD (Int.toNat 0) 0).toNat:Int)==39)=false:=by
     rw[e0,beq_eq_false_iff_ne];intro e;exact h3 (UInt8.toNat_inj.1 (by have:(39:UInt8).toNat=39:=rfl;omega))
    rw[if_neg (by simpa using h3)]at eo;have hp: ∀p:List UInt8,p.length<=1000000->aj Tryz.prog 149 [.str s,.str p] (.bool (p.isPrefixOf s)):=fun p h=>qZ h
    iterate 14 all_goals ((try conv=>whnf);try first|(with_reducible first|refine zY ?_|refine zN ?_|refine zT ?_|refine br (fun _=> ?_) (fun _=> ?_)|refine⟨rfl,?_⟩|refine aj.call (hl) ?_|refine aj.call (hg) ?_|refine aj.call (IA) ?_))
    refine nU (σ:={i:Nat // i<=17/\fT s eG=fT s (eG.drop i)}) (fun x=>[(0,SV.str s),(2,SV.ref 0 0 0 0),(3,SV.int IntKind.i64 0),(4,SV.int IntKind.i64 0),(5,SV.int IntKind.u8 ((s.getD (Int.toNat 0) 0).toNat:Int)),(10,SV.bool false),(18,SV.bool false),(26,SV.bool false),(34,SV.aW 1 17 fun i=>SV.str (eG.getD i [])),(35,SV.int IntKind.i64 ((17:Nat):Int)),(36,SV.int IntKind.i64 x.1)])
     (fun _=>⟨1,[(0,AZ)]⟩) (fun x=>17-x.1) ?_ ⟨0,by omega,rfl⟩
    rintro⟨i,hi,he⟩;dsimp only;by_cases hil:i<17
    ·have hd:decide ((i:Int)<((17:Nat):Int))=true:=decide_eq_true (by omega)
     have e7:IntKind.i64.wrap ((i:Int)+1)=((i+1:Nat):Int):=bf (by omega);have et:=Int.toNat_natCast i
     have hlen:(eG.getD (i:Int).toNat []).length<=1000000:=by
      rw[et];have: ∀j:Fin 17,(eG.getD j.val []).length<=1000000:=by decide
      exact this ⟨i,hil⟩
     have Pw:=hp _ hlen
     have hdc:eG.drop i=eG.getD (i:Int).toNat []::eG.drop (i+1):=by
      rw[et];have: ∀j:Fin 17,eG.drop j.val=eG.getD j.val []::eG.drop (j.val+1):=by decide
      exact this ⟨i,hil⟩
     rw[hdc,fT]at he;cases hx:(eG.getD (i:Int).toNat []).isPrefixOf s
     ·rw[hx,if_neg (by decide)]at he
      iterate 16 all_goals ((try conv=>whnf);try first|(with_reducible first|refine zY ?_|refine zN ?_|refine zT ?_|refine br (fun _=> ?_) (fun _=> ?_)|refine⟨rfl,?_⟩|refine aj.call (Pw) ?_))
      exact⟨⟨i+1,hil,he⟩,by dsimp only;omega,by rw[e7],rfl⟩
     ·rw[hx,if_pos rfl]at he
      iterate 16 all_goals ((try conv=>whnf);try first|(with_reducible first|refine zY ?_|refine zN ?_|refine zT ?_|refine br (fun _=> ?_) (fun _=> ?_)|refine⟨rfl,?_⟩|refine aj.call (Pw) ?_))
      exact leaf (by rw[eo,he];rfl) (cJ _)
    ·have hd:decide ((i:Int)<((17:Nat):Int))=false:=decide_eq_false (by omega)
     iterate 16 all_goals ((try conv=>whnf);try first|(with_reducible first|refine zY ?_|refine zN ?_|refine zT ?_|refine br (fun _=> ?_) (fun _=> ?_)|refine⟨rfl,?_⟩))
     obtain rfl:i=17:=by omega
     exact leaf (by rw[eo,he];rfl) (cJ _)
  ·have pn:=h2
   rw[e0]at h2;have hn:=Fe hs h2 hne;rw[h2,if_pos rfl]at eo;cases hT:iZ s
   all_goals rw[hT]at hn
   all_goals iterate 20 all_goals ((try conv=>whnf);try first|(with_reducible first|refine zY ?_|refine zN ?_|refine zT ?_|refine br (fun _=> ?_) (fun _=> ?_)|refine⟨rfl,?_⟩|refine aj.call (hl) ?_|refine aj.call (hg) ?_|refine aj.call (hn) ?_))
   all_goals exact leaf (by rw[eo,hT];rfl) (cJ _)
 ·have QE:=h1
  rw[e0]at h1;have hw:=K0 hs;rw[h1,if_pos rfl]at eo;cases hT:nV s
  all_goals rw[hT]at hw
  all_goals iterate 20 all_goals ((try conv=>whnf);try first|(with_reducible first|refine zY ?_|refine zN ?_|refine zT ?_|refine br (fun _=> ?_) (fun _=> ?_)|refine⟨rfl,?_⟩|refine aj.call (hl) ?_|refine aj.call (hg) ?_|refine aj.call (hw) ?_))
  all_goals exact leaf (by rw[eo,hT];rfl) (cJ _)
end Go.Proofs.YtegmnocpkgpgeaaGreatDoor
namespace Go.Proofs.YtegmnocpkgpgeaaGreatDoor
open Ab Go.RowKit
set_option maxRecDepth 100000
set_option maxHeartbeats 4000000
attribute [local irreducible] aS bH
theorem uT(c:UInt8):aj Tryz.prog 95 [.str [9,10,13,32],.int .u8 (c.toNat:Int)] (.int .i64 (Go.Lib.indexByte [9,10,13,32] c)):=by
 refine aG (cP (.str _) (.int _ _)) (Vk.call mixed rfl ?_);iterate 6 all_goals ((try conv=>whnf);try first|(with_reducible first|refine zY ?_|refine zN ?_|refine zT ?_|refine br (fun _=> ?_) (fun _=> ?_)|refine⟨rfl,?_⟩)|(refine E1.call mixed rfl ?_))
 refine leaf ?_ (.int _ _);have e:(Int.toNat (c.toNat:Int)).toUInt8=c:=by rw[Int.toNat_natCast];simp
 show SV.int .i64 (Lib.indexByte [9,10,13,32] (Int.toNat (c.toNat:Int)).toUInt8)=_;rw[e]
theorem uU(c:UInt8):decide (0<=Go.Lib.indexByte [9,10,13,32] c)=bV c:=by
 have: ∀n:Fin 256,decide (0<=Go.Lib.indexByte [9,10,13,32] (UInt8.ofNat n.val))=bV (UInt8.ofNat n.val):=by decide +kernel
 have h:=this ⟨c.toNat,UInt8.toNat_lt c⟩;simp only[UInt8.ofNat_toNat]at h;exact h
theorem rR: ∀(f:Nat) (u:List UInt8) (i:Nat) (bad:Bool) (buf:List UInt8) (e:Int),bX f u i bad buf= .err e->e≠0
 |0,_,_,_,_,e,h=>by simp[bX]at h;omega
 |f+1,[],_,_,_,e,h=>by simp[bX]at h;omega
 |f+1,a::u,i,bad,buf,e,h=>by
  rw[bX]at h;split at h
  ·exact rR f _ _ _ _ e h
  ·split at h
   ·exact rR f _ _ _ _ e h
   ·split at h
    ·cases h;decide
    ·split at h
     ·cases h;decide
     ·cases h
theorem zz{u:List UInt8}: ∀(L:List (List UInt8)) (e:Int),fT u L= .err e->e≠0
 | [],e,h=>by simp[fT]at h;omega
 |y::L,e,h=>by
  rw[fT]at h;split at h
  ·cases h
  ·exact zz L e h
theorem w9{s:List UInt8}{e:Int}(h:fG s= .err e):e≠0:=by
 cases s with
 |nil=>simp[fG]at h;omega
 |cons c r=>
  unfold fG at h;dsimp only at h;split at h
  ·unfold nV at h
   dsimp only at h;split at h
   ·cases h;decide
   ·cases h
  ·split at h
   ·unfold iZ at h
    dsimp only at h;split at h
    ·cases h;decide
    ·cases h
   ·split at h
    ·exact rR _ _ _ _ _ _ h
    ·exact zz _ _ h
@[reducible] def gO (e a:Int):SV:= .agg [.int .i64 e,.int .i64 a]
def Sw(r:Except (Int×Nat) (List TP)):SV:=match r with
 | .ok []=> .bn [.af,gO 0 0]
 | .ok (x::l)=> .bn [wU (x::l),gO 0 0]
 | .error (e,a)=> .bn [.af,gO e a]
def A5(ts:List TP)(r:Except (Int×Nat) (List TP)):Except (Int×Nat) (List TP):=match r with
 | .ok l=> .ok (ts++l)
 | .error e=> .error e
theorem xb{f p:Nat}{s:List UInt8}(h:s≠[]):eN (f+1) s p=if bV (s.getD 0 0)then eN f (s.drop 1) (p+1)else match fG s with
  | .err e=> .error (e,p)
  | .ok x n=>A5 [(x,p)] (eN f (s.drop n) (p+n)):=by
 cases s with
 |nil=>exact absurd rfl h
 |cons c r=>
  rw[eN];show _=if bV c then _ else _
  split
  ·rfl
  ·cases ho:fG (c::r)with
   |err e=>rfl
   |ok x n=>
    dsimp only;cases eN f ((c::r).drop n) (p+n)<;>rfl
theorem Db(a b:List TP)(r:Except (Int×Nat) (List TP)):A5 a (A5 b r)=A5 (a++b) r:=by
 cases r<;>simp[A5]
theorem Dc(r:Except (Int×Nat) (List TP)):A5 [] r=r:=by cases r<;>simp[A5]
structure Zg(s:List UInt8)(p:Nat)(ts:List TP):Prop where
 pl:p<=s.length
 tl:ts.length<=p
 go: ∃f,(s.drop p).length<=f/\lR s=A5 ts (eN f (s.drop p) p)
inductive xe(s:List UInt8) where
 |E (p:Nat) (h:Zg s p [])
 |L (p g:Nat) (x:TP) (ts:List TP) (h:Zg s p (x::ts))
@[reducible] def Vv:ai:= .vec 0 2 [gO 0 0] ⟨false,some 28⟩
@[reducible] def Vw (x:TP):ai:= .vec 0 4 [iF x] ⟨false,some 176⟩
@[reducible] def xe.env {s:List UInt8}:xe s->Env
  | .E p _=>[(0,SV.str s),(2,SV.af),(3,SV.ref 0 0 0 0),(11,SV.bool false),(4,SV.af),(5,SV.int IntKind.i64 p)]
  | .L p g x ts _=>[(0,SV.str s),(2,SV.af),(3,SV.ref 0 0 0 0),(11,SV.bool false),(4,SV.sl 3 g 4 0 (x::ts).length none),(5,SV.int IntKind.i64 p)]
@[reducible] def xe.hp {s:List UInt8}:xe s->Heap
  | .E _ _=>⟨1,[(0,Vv)]⟩
  | .L p g x ts _=>⟨4,[(3,.vec g 4 ((x::ts).map iF) ⟨true,some 176⟩),(2,Vw x),(1,Vw x),(0,Vv)]⟩
def xe.mu{s:List UInt8}:xe s->Nat
 | .E p _=>s.length-p
 | .L p _ _ _ _=>s.length-p
def xe.nn{s:List UInt8}:xe s->Nat
 | .E p _=>if bV (s.getD p 0)=true then 1 else 4
 | .L .. =>4
theorem sP(r:Except (Int×Nat) (List TP)):aL (Sw r):=by
 have hf: ∀e a:Int,aL (gO e a):=fun e a=> .agg (by simp only[List.mem_cons,List.not_mem_nil,or_false];rintro _ (rfl|rfl)<;>constructor)
 match r with
 | .ok []=>exact tT .af (hf _ _)
 | .ok (x::l)=>exact tT (.aW _ _ _) (hf _ _)
 | .error (e,a)=>exact tT .af (hf _ _)
theorem sQ{s:List UInt8}{pos:Nat}{o:One}(hs:s.length<=65536)(h:pos<s.length)(ho:fG (s.drop pos)=o):aj Tryz.prog 96 [.str (List.take (((s.length:Nat):Int).toNat-((pos:Nat):Int).toNat) (List.drop ((pos:Nat):Int).toNat s))] (yJ o):=by
 rw[w8,<-ho];exact NZ (by rw[List.length_drop];omega) (by rw[drop_cons h];simp)
theorem GF{s:List UInt8}(hs:s.length<=65536):aj Tryz.prog 55 [.str s] (Sw (lR s)):=by
 refine aG (di (.str _)) (PD.call mixed rfl ?_);have h0:decide ((65536:Int)<(s.length:Int))=false:=decide_eq_false (by omega);iterate 10 all_goals ((try conv=>whnf);try first|(with_reducible first|refine zY ?_|refine zN ?_|refine zT ?_|refine br (fun _=> ?_) (fun _=> ?_)|refine⟨rfl,?_⟩))
 refine dz (σ:=xe s) xe.env xe.hp xe.mu xe.nn (fun x=>match x with| .E p _=>(by show 1<=if _ then 1 else 4;split<;>decide)| .L .. =>Nat.le_refl 4) ?_ (.E 0 ⟨by omega,by simp,s.length,by simp,by rw[Dc];rfl⟩);rintro(⟨p,hI⟩|⟨p,g,x,ts,hI⟩)
 ·obtain⟨pl,tl,f,hf,hgo⟩:=id hI
  by_cases hl:p<s.length
  ·have hd:decide ((p:Int)<(s.length:Int))=true:=decide_eq_true (by omega)
   have e7:IntKind.i64.wrap ((p:Int)+1)=((p+1:Nat):Int):=bf (by omega);have et:=Int.toNat_natCast p;have ci:=uT (s.getD (p:Int).toNat 0);have cb:=uU (s.getD (p:Int).toNat 0);rw[List.length_drop]at hf;obtain⟨f,rfl⟩: ∃f',f=f'+1:=⟨f-1,by omega⟩;rw[xb (by rw[drop_cons hl];simp),cD,Nat.add_zero,List.drop_drop]at hgo;cases hb:bV (s.getD p 0)
   ·rw[hb,if_neg (by decide)]at hgo
    rw[show xe.nn (xe.E p hI)=4 from if_neg (by rw[hb];decide)];rw[<- et]at hb;rw[hb]at cb;cases ho:fG (s.drop p)with
    |err e=>
     have co:=sQ hs hl ho;have he:=w9 ho;have hne:(e !=0)=true:=by rw[bne_iff_ne];exact he
     rw[ho,Dc]at hgo;iterate 24 all_goals ((try conv=>whnf);try first|(with_reducible first|refine zY ?_|refine zN ?_|refine zT ?_|refine br (fun _=> ?_) (fun _=> ?_)|refine⟨rfl,?_⟩|refine aj.call (ci) ?_|refine aj.call (co) ?_))
     exact leaf (by rw[hgo];rfl) (sP _)
    |ok x n=>
     have co:=sQ hs hl ho;obtain⟨n1,n2,_⟩:=jb ho;rw[List.length_drop]at n2;have e8:IntKind.i64.wrap ((p:Int)+(n:Int))=((p+n:Nat):Int):=by rw[CS (by omega) (by omega)];omega
     rw[ho]at hgo;dsimp only at hgo;rw[Db,List.nil_append,List.drop_drop]at hgo;iterate 40 all_goals ((try conv=>whnf);try first|(with_reducible first|refine zY ?_|refine zN ?_|refine zT ?_|refine br (fun _=> ?_) (fun _=> ?_)|refine⟨rfl,?_⟩|refine aj.call (ci) ?_|refine aj.call (co) ?_)|(refine C4 (v:=(x,p)) ?_))
     refine⟨.L (p+n) 0 (x,p) [] ⟨by omega,by simp;omega,f,by rw[List.length_drop];omega,hgo⟩,by simp only[xe.mu];omega,by rw[e8];rfl,rfl⟩
   ·rw[hb,if_pos rfl]at hgo
    rw[show xe.nn (xe.E p hI)=1 from if_pos hb];rw[<- et]at hb;rw[hb]at cb;iterate 24 all_goals ((try conv=>whnf);try first|(with_reducible first|refine zY ?_|refine zN ?_|refine zT ?_|refine br (fun _=> ?_) (fun _=> ?_)|refine⟨rfl,?_⟩|refine aj.call (ci) ?_))
    refine⟨.E (p+1) ⟨hl,by simp,f,by rw[List.length_drop];omega,hgo⟩,by simp only[xe.mu];omega,by rw[e7],rfl⟩
  ·have hd:decide ((p:Int)<(s.length:Int))=false:=decide_eq_false (by omega)
   have yx:lR s= .ok []:=by
    rw[hgo,List.drop_of_length_le (by omega)];cases f<;>rfl
   iterate 24 all_goals ((try conv=>whnf);try first|(with_reducible first|refine zY ?_|refine zN ?_|refine zT ?_|refine br (fun _=> ?_) (fun _=> ?_)|refine⟨rfl,?_⟩))
   exact leaf (by rw[yx];rfl) (sP _)
 ·obtain⟨pl,tl,f,hf,hgo⟩:=id hI
  have qg:Nat.beq g g=true:=cC g;rw[show xe.nn (xe.L p g x ts hI)=4 from rfl];simp only[List.length_cons]at tl;by_cases hl:p<s.length
  ·have hd:decide ((p:Int)<(s.length:Int))=true:=decide_eq_true (by omega)
   have e7:IntKind.i64.wrap ((p:Int)+1)=((p+1:Nat):Int):=bf (by omega);have et:=Int.toNat_natCast p;have ci:=uT (s.getD (p:Int).toNat 0);have cb:=uU (s.getD (p:Int).toNat 0);rw[List.length_drop]at hf;obtain⟨f,rfl⟩: ∃f',f=f'+1:=⟨f-1,by omega⟩;rw[xb (by rw[drop_cons hl];simp),cD,Nat.add_zero,List.drop_drop]at hgo;cases hb:bV (s.getD p 0)
   ·rw[hb,if_neg (by decide)]at hgo
    rw[<- et]at hb;rw[hb]at cb;cases ho:fG (s.drop p)with
    |err e=>
     have co:=sQ hs hl ho;have he:=w9 ho;have hne:(e !=0)=true:=by rw[bne_iff_ne];exact he
     rw[ho]at hgo;iterate 24 all_goals ((try conv=>whnf);try first|(with_reducible first|refine zY ?_|refine zN ?_|refine zT ?_|refine br (fun _=> ?_) (fun _=> ?_)|refine⟨rfl,?_⟩|refine aj.call (ci) ?_|refine aj.call (co) ?_))
     exact leaf (by rw[hgo];rfl) (sP _)
    |ok y n=>
     have co:=sQ hs hl ho;obtain⟨n1,n2,_⟩:=jb ho;rw[List.length_drop]at n2;have e8:IntKind.i64.wrap ((p:Int)+(n:Int))=((p+n:Nat):Int):=by rw[CS (by omega) (by omega)];omega
     rw[ho]at hgo;dsimp only at hgo;rw[Db,List.drop_drop]at hgo;iterate 40 all_goals ((try conv=>whnf);try first|(with_reducible first|refine zY ?_|refine zN ?_|refine zT ?_|refine br (fun _=> ?_) (fun _=> ?_)|refine⟨rfl,?_⟩|refine aj.call (ci) ?_|refine aj.call (co) ?_)|(refine NJ (i:=3) (vs:=x::ts) (v:=(y,p)) rfl (by omega) (by simp only[List.length_cons];omega) ?_)|(refine au C3 ?_)|(refine au (C3 (s:=x::ts)) ?_)|(refine au (C3 (s:=x::ts++[(y,p)])) ?_)|(refine au (fN rfl) ?_))
     refine⟨.L (p+n) (g+1) x (ts++[(y,p)]) ⟨by omega,by simp;omega,f,by rw[List.length_drop];omega,hgo⟩,by simp only[xe.mu];omega,?_,?_⟩
     ·rw[e8];simp
     ·simp
   ·rw[hb,if_pos rfl]at hgo
    rw[<- et]at hb;rw[hb]at cb;iterate 24 all_goals ((try conv=>whnf);try first|(with_reducible first|refine zY ?_|refine zN ?_|refine zT ?_|refine br (fun _=> ?_) (fun _=> ?_)|refine⟨rfl,?_⟩|refine aj.call (ci) ?_)|(refine au C3 ?_)|(refine au (C3 (s:=x::ts)) ?_)|(refine au (fN rfl) ?_))
    refine⟨.L (p+1) g x ts ⟨hl,by simp;omega,f,by rw[List.length_drop];omega,hgo⟩,by simp only[xe.mu];omega,by rw[e7],rfl⟩
  ·have hd:decide ((p:Int)<(s.length:Int))=false:=decide_eq_false (by omega)
   have hall:lR s= .ok (x::ts):=by
    rw[hgo,List.drop_of_length_le (by omega)];cases f<;>simp[eN,A5]
   iterate 24 all_goals ((try conv=>whnf);try first|(with_reducible first|refine zY ?_|refine zN ?_|refine zT ?_|refine br (fun _=> ?_) (fun _=> ?_)|refine⟨rfl,?_⟩))
   refine⟨_,rfl,?_⟩;rw[hall];show bA _ _ (SV.bn [wU (x::ts),gO 0 0]);refine .bn rfl fun i v v' a b=> ?_
   rcases i with _|_|i
   ·cases a;cases b;exact Gz (s:=x::ts) rfl rfl
   ·cases a;cases b;exact .lit (.agg (by simp only[List.mem_cons,List.not_mem_nil,or_false];rintro _ (rfl|rfl)<;>constructor))
   ·simp at a
end Go.Proofs.YtegmnocpkgpgeaaGreatDoor
namespace Go.Proofs.YtegmnocpkgpgeaaGreatDoor
open Go.Lib
theorem K6: ∀c:UInt8,bV c=true->bL c=false/\isDigit c=false/\c≠39:=by
 intro c hc;have: ∀n:Fin 256,bV (UInt8.ofNat n.val)=true->bL (UInt8.ofNat n.val)=false/\isDigit (UInt8.ofNat n.val)=false/\UInt8.ofNat n.val≠39:=by decide +kernel
 have h:=this ⟨c.toNat,UInt8.toNat_lt c⟩;simp at h;simpa using h hc
theorem mZ{p:UInt8->Bool}: ∀ {u:List UInt8} {c:UInt8} {r:List UInt8},(u.takeWhile p).length=u.length->p c=false->(u++c::r).takeWhile p=u.takeWhile p
 | [],c,r,_,hc=>by simp[hc]
 |a::u,c,r,h,hc=>by
  rw[List.cons_append,List.takeWhile_cons,List.takeWhile_cons];rw[List.takeWhile_cons]at h;split
  ·rename_i ha
   rw[if_pos ha]at h;rw[mZ (u:=u) (by simpa using h) hc]
  ·rename_i ha
   simp[ha]at h
theorem rS: ∀(f:Nat) (u:List UInt8) (i:Nat) (bad:Bool) (buf:List UInt8) (x:Tk) (c:UInt8) (r:List UInt8) (f':Nat),c≠39->bX f u i bad buf= .ok x (i+u.length)->u.length<=f'->bX f' (u++c::r) i bad buf= .ok x (i+u.length)
 |0,_,_,_,_,_,_,_,_,_,h,_=>by simp[bX]at h
 |f+1,[],_,_,_,_,_,_,_,_,h,_=>by simp[bX]at h
 |f+1,a::u,i,bad,buf,x,c,r,f',hc,h,hf=>by
  have h0:=h;simp only[List.length_cons]at h hf ⊢;obtain⟨f',rfl⟩: ∃g,f'=g+1:=⟨f'-1,by omega⟩;rw[bX]at h;rw[List.cons_append,bX];by_cases ha:a≠39
  ·rw[if_pos ha]at h ⊢
   obtain⟨k1,k2,k3,_⟩:=lS _ _ _ _ _ x _ h0;simp only[List.length_cons]at k2 k3;have e0:i+(u.length+1)-1-i=u.length:=by omega
   rw[e0]at k2 k3;obtain⟨k1,_,_,_⟩:=lS _ _ _ _ _ x _ h;generalize hd:decodeL (a::u)=d at h k1;have hu:u≠[]:=by rintro rfl;exact ha k3
   have hl:a::u=(a::u).take u.length++39::[]:=by
    have:=CM (l:=a::u) (k:=u.length) (by simp) k3;rw[List.drop_of_length_le (by simp)]at this;exact this
   have hp:(a::u).take u.length≠[]:=by
    cases u with
    |nil=>exact absurd rfl hu
    |cons b v=>simp
   have hd':decodeL (a::(u++c::r))=d:=by
    have e:a::(u++c::r)=(a::u).take u.length++39::(c::r):=by
     rw[<- List.cons_append]
     conv=>lhs;rw[hl]
     simp
    rw[e,sC hp (r':=[]),<-hl,hd]
   have hw:=sD (p:=(a::u).take u.length) (r:=[]) hp;rw[<- hl,hd,List.length_take]at hw;simp only[List.length_cons]at hw;have hw1:1<=d.2:=by rw[<- hd];exact decodeL_width _
   rw[hd'];show bX f' ((a::(u++c::r)).drop d.2) (i+d.2) _ (buf++(a::(u++c::r)).take d.2)=_;rw[<- List.cons_append,List.drop_append_of_le_length (by simp only[List.length_cons];omega),List.take_append_of_le_length (by simp only[List.length_cons];omega)];have el:i+(u.length+1)=i+d.2+((a::u).drop d.2).length:=by rw[List.length_drop,List.length_cons];omega
   rw[el]at h ⊢;exact rS f _ _ _ _ x c r f' hc h (by rw[List.length_drop,List.length_cons];omega)
  ·have ha:a=39:=by simpa using ha
   subst ha;rw[if_neg (by simp)]at h ⊢
   match u,h,hf with
   | [],h,hf=>
     rw[if_neg (by decide)]at h;rw[if_neg (by simpa using hc)];exact h
   |b::u,h,hf=>
    by_cases hb:b=39
    ·subst hb
     rw[if_pos (by rfl)]at h;rw[if_pos (by rfl)];simp only[List.cons_append,List.drop_succ_cons,List.drop_zero,List.length_cons]at h ⊢;rw[show i+(u.length+1+1)=i+2+u.length by omega]at h ⊢;exact rS f u (i+2) bad _ x c r f' hc h (by simp only[List.length_cons]at hf;omega)
    ·rw[if_neg (by simpa using hb)]at h
     exfalso;split at h
     ·cases h
     ·split at h
      ·cases h
      ·cases h
theorem N0: ∀x∈eG,∀b∈x,bV b=false:=by decide
theorem zA{u:List UInt8}{c:UInt8}{r:List UInt8}(hc:bV c=true): ∀(L:List (List UInt8)) (x:Tk),(∀ y∈L,y∈eG)->fT u L= .ok x u.length->fT (u++c::r) L= .ok x u.length
 | [],x,_,h=>by simp[fT]at h
 |y::L,x,hL,h=>by
  rw[fT]at h ⊢;split at h
  ·rename_i hy
   rw[if_pos]
   ·exact h
   ·rw[List.isPrefixOf_iff_prefix]at hy ⊢
    exact hy.trans (List.prefix_append _ _)
  ·rename_i hy
   rw[if_neg]
   ·exact zA hc L x (fun y hm=>hL y (by simp[hm])) h
   ·intro hp
    rw[List.isPrefixOf_iff_prefix]at hy hp;rcases Nat.lt_or_ge u.length y.length with hlt|hge
    ·obtain⟨t,ht⟩:=hp
     have:(y++t)[u.length]? =some c:=by rw[ht];simp
     rw[List.getElem?_append_left hlt]at this;have hm:=List.mem_of_getElem? this;have:=N0 y (hL y (by simp)) c hm;rw[hc]at this;cases this
    ·exact hy (List.prefix_of_prefix_length_le hp (List.prefix_append _ _) hge)
theorem Dd{u:List UInt8}{x:Tk}{c:UInt8}{r:List UInt8}(h:fG u= .ok x u.length)(hc:bV c=true):fG (u++c::r)= .ok x u.length:=by
 obtain⟨n1,n2,n3⟩:=K6 c hc
 match u,h with
 | [],h=>simp[fG]at h
 |a::v,h=>
  unfold fG at h ⊢;rw[List.cons_append];dsimp only at h ⊢;split at h
  ·rename_i hl
   rw[if_pos hl];unfold nV at h ⊢;dsimp only at h ⊢;split at h
   ·cases h
   ·rename_i hlen
    have hw:((a::v).takeWhile fun c=>bL c||isDigit c).length=(a::v).length:=by injection h
    have:=mZ (p:=fun c=>bL c||isDigit c) (r:=r) hw (by simp[n1,n2]:(bL c||isDigit c)=false);rw[List.cons_append]at this;rw[this,if_neg hlen];exact h
  ·rename_i hl
   rw[if_neg hl];split at h
   ·rename_i hd
    rw[if_pos hd];unfold iZ at h ⊢;dsimp only at h ⊢;split at h
    ·cases h
    ·rename_i hlen
     have hw:((a::v).takeWhile isDigit).length=(a::v).length:=by injection h
     have:=mZ (p:=isDigit) (r:=r) hw n2;rw[List.cons_append]at this;rw[this,if_neg hlen];exact h
   ·rename_i hd
    rw[if_neg hd];split at h
    ·rename_i hq
     rw[if_pos hq];unfold nW at h ⊢;simp only[List.drop_succ_cons,List.drop_zero,List.length_cons]at h ⊢;rw[show v.length+1=1+v.length by omega]at h ⊢;exact rS _ v 1 false [] x c r _ n3 h (by simp only[List.length_append];omega)
    ·rename_i hq
     rw[if_neg hq];exact zA hc eG x (fun _ h=>h) h
theorem xg: ∀(bl:List UInt8) (f p:Nat) (r:List UInt8),(∀ c∈bl,bV c=true)->bl.length<=f->eN f (bl++r) p=eN (f-bl.length) r (p+bl.length)
 | [],f,p,r,_,_=>rfl
 |b::bl,f,p,r,h,hf=>by
  obtain⟨f,rfl⟩: ∃g,f=g+1:=⟨f-1,by simp only[List.length_cons]at hf;omega⟩;rw[List.cons_append,eN,if_pos (h b (by simp)),xg bl f (p+1) r (fun c hc=>h c (by simp[hc])) (by simpa using hf)];simp only[List.length_cons];congr 1<;>omega
structure Piece where
 u:List UInt8
 bl:List UInt8
 x:Tk
structure Piece.Ok(q:Piece):Prop where
 one:fG q.u= .ok q.x q.u.length
 first:bV (q.u.getD 0 0)=false
 ne:q.bl≠[]
 blank: ∀c∈q.bl,bV c=true
def flat(ps:List Piece):List UInt8:=ps.flatMap fun q=>q.u++q.bl
theorem xh: ∀(ps:List Piece) (f p:Nat),(∀ q∈ps,q.Ok)->(flat ps).length<=f-> ∃l,eN f (flat ps) p= .ok l/\l.map (·.1)=ps.map (·.x)
 | [],f,p,_,_=>⟨[],kD f [] p (by simp),rfl⟩
 |q::ps,f,p,h,hf=>by
  have hq:=h q (by simp);have e:flat (q::ps)=q.u++(q.bl++flat ps):=by simp[flat]
  rw[e]at hf ⊢;simp only[List.length_append]at hf;obtain⟨h1,h2,_⟩:=jb hq.one;obtain⟨l,hl,hm⟩:=xh ps (f-1-q.bl.length) (p+q.u.length+q.bl.length) (fun q' JT=>h q' (by simp[JT])) (by omega);refine⟨(q.x,p)::l,?_,by simp[hm]⟩;obtain⟨f,rfl⟩: ∃g,f=g+1:=⟨f-1,by omega⟩
  match hu:q.u,H6:q.bl with
  | [],_=>rw[hu]at h1;simp at h1
  |_,[]=>exact absurd H6 hq.ne
  |a::v,b::bl=>
   have ho:fG ((a::v)++b::(bl++flat ps))= .ok q.x (a::v).length:=by
    rw[<- hu];exact Dd hq.one (hq.blank b (by rw[H6];simp))
   have Zh:=hq.first
   rw[hu]at Zh;rw[List.cons_append,eN,if_neg (by simpa using Zh)];rw[List.cons_append]at ho;rw[List.cons_append,ho];dsimp only;rw[<- List.cons_append,List.drop_left' rfl,<-List.cons_append,<-H6];rw[hu,H6]at hl hf;have hs:=xg q.bl f (p+(a::v).length) (flat ps) hq.blank (by rw[H6];simp only[List.length_cons]at hf ⊢;omega);rw[hs];rw[H6];rw[show f+1-1-(b::bl).length=f-(b::bl).length by omega]at hl;rw[hl]
theorem IB{ps:List Piece}(h: ∀q∈ps,q.Ok): ∃l,lR (flat ps)= .ok l/\l.map (·.1)=ps.map (·.x):=xh ps _ 0 h (Nat.le_refl _)
end Go.Proofs.YtegmnocpkgpgeaaGreatDoor
